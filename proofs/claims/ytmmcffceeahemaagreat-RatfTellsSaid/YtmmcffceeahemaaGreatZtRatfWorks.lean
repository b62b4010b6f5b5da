/-
  Layer 15: the chapter's examples.
-/
import Derived.Test.YtmmcffceeahemaaGreatZtRatfLaw
import Derived.Test.YtmmcffceeahemaaGreatZtRefRatf2
import Derived.Deep.DeepCutAuto
import Derived.Test.YtmmcffceeahemaaGreatZtShort
set_option linter.unusedVariables false
set_option linter.unusedSimpArgs false
namespace Pq
theorem one_ne : nm [1] ≠ [] := by rw [nm_one]; simp
theorem lp_small {R : List Rat} (h : ∀ x ∈ R, Wd.Lq x 2) (h1 : Wd.Lq 1 2) (hl : R.length ≤ 2) : Lp (R ++ [1]) 7 :=
 (Lp.few (k := 2) fun x hx => by
   rcases List.mem_append.1 hx with hx | hx
   · exact h x hx
   · rw [List.mem_singleton.1 hx]; exact h1).mono (by rw [List.length_append]; simp; omega)
/-- x over 2 x is one half. -/
theorem w15_half {R1 R2 R4 Q1 Q2 : List Rat} {h : Rat} (hh : h * 2 = 1) (e1 : ∀ x, E R1 x = x) (e2 : ∀ x, E R2 x = x * 2) (e4 : ∀ x, E R4 x = h) (hR : nm R1 ≠ []) (hc : Can (nm (mul R1 [1])) (nm (mul [1] R2)) Q1 Q2) : decide (nm (nm (mul Q1 [1])) = nm (nm (mul R4 Q2))) = true :=
 decide_eq_true (nm_ext fun x => by
  have := mul_cancel (p := mul Q1 [1]) (q := mul R4 Q2) (r := R1) (fun x => by
   have := hc.eq x
   rw [E_nmul, E_nmul, E_one, e1, e2] at this
   rw [E_mul, E_mul, E_one, e1, e4]
   calc E Q1 x * 1 * x = h * (E Q1 x * (1 * (x * 2))) := by
         calc E Q1 x * 1 * x = (h * 2) * (E Q1 x * x) := by rw [hh]; grind
          _ = _ := by grind
    _ = _ := by rw [this]; grind) hR x
  rw [E_nmul, E_nmul]
  rwa [E_mul, E_mul] at this)
/-- 1 over x has no value at 0, and isn't 0. -/
theorem w15_over {R1 R3 O1 O2 us ds : List Rat} (e1 : ∀ x, E R1 x = x) (e3 : ∀ x, E R3 x = 1) (hR : nm R1 ≠ []) (hc : Can (nm (mul R3 [1])) (nm (mul [1] R1)) O1 O2) (h2 : Can O1 O2 us ds) : (!decide (E ds 0 = 0)) = false := by
 have := h2.eq 0
 have hc0 := (h2.via hc).eq 0
 rw [E_nmul, E_nmul, E_one, e1, e3] at hc0
 have : E ds 0 = 0 := by grind
 rw [decide_eq_true this]; rfl
theorem w15_zero {R1 R3 O1 O2 : List Rat} (e3 : ∀ x, E R3 x = 1) (hR : nm R1 ≠ []) (hc : Can (nm (mul R3 [1])) (nm (mul [1] R1)) O1 O2) : decide (nm O1 = []) = false :=
 decide_eq_false fun e => by
  have h1 : O1 = [] := by rwa [nm_of_tr hc.tr] at e
  have h2 := (hc.zero (nmul_ne one_ne hR)).1 h1
  have := E_of_nil h2 0
  rw [E_nmul, e3, E_one, Rat.one_mul] at this
  exact absurd this (by decide)
end Pq
namespace Go.Proofs.YtmmcffceeahemaaGreat
open Go.RowKit
theorem ARow.ne {k : Nat} {w : World} {v : Value} {qs : List Rat} (h : ARow k w v qs) : v.ownBlock ≠ some w.heap.size := fun e => by have := (OwnQ.lt h _ e).2; omega
theorem ARow.stored2 {k : Nat} {w : World} {v x : Value} {qs : List Rat} {g i : Nat} (h : ARow k w v qs) (hne : v.ownBlock ≠ some g) (hk : Kw w (w.setCell ⟨g, i, none⟩ x)) : ARow k (w.setCell ⟨g, i, none⟩ x) v qs :=
 OwnQ.kept (kp_qk k) h hk (row := some g) ⟨rfl, rfl, rfl, by simp [World.setCell], fun j hj hj2 => Below.heap_setCell _ _ _ _ (by simp; exact fun e => hj2 (by rw [e]))⟩ (.inr hne)
set_option maxRecDepth 100000 in
set_option maxHeartbeats 6400000 in
theorem works15 (w : World) : Calls Tryz.prog 60 #[] w fun e w' => e = .returned (.bool true) ∧ Up w w' := by
 obtain ⟨Z0, HZ0⟩ : ∃ P, Hid ((0 : Rat) = P) := ⟨_, Lib.hid rfl⟩
 obtain ⟨P1, HP1⟩ : ∃ P, Hid (((1 : Int) : Rat) = P) := ⟨_, Lib.hid rfl⟩
 obtain ⟨T2, HT2⟩ : ∃ P, Hid (((2 : Int) : Rat) = P) := ⟨_, Lib.hid rfl⟩
 obtain ⟨H2, HH2⟩ : ∃ P, Hid (((1 : Int) : Rat) / ((2 : Int) : Rat) = P) := ⟨_, Lib.hid rfl⟩
 have LZ : Wd.Lq Z0 2 := by rw [← HZ0.out]; exact lq_zero
 have L1 : Wd.Lq P1 2 := by rw [← HP1.out]; exact lq_int (by omega)
 have L2 : Wd.Lq T2 2 := by rw [← HT2.out]; exact lq_int (by omega)
 have LH : Wd.Lq H2 4 := by rw [← HH2.out]; exact (lq_int (n := 1) (by omega)).div (lq_int (n := 2) (by omega))
 obtain ⟨R1, HR1⟩ : ∃ r, Hid (Pq.nm [Z0, P1] = r) := ⟨_, Lib.hid rfl⟩
 obtain ⟨R2, HR2⟩ : ∃ r, Hid (Pq.nm [Z0, T2] = r) := ⟨_, Lib.hid rfl⟩
 obtain ⟨R3, HR3⟩ : ∃ r, Hid (Pq.nm [P1] = r) := ⟨_, Lib.hid rfl⟩
 obtain ⟨R4, HR4⟩ : ∃ r, Hid (Pq.nm [H2] = r) := ⟨_, Lib.hid rfl⟩
 have E1 : Hid (∀ x, Pq.E R1 x = x) := Lib.hid (fun x => by rw [← HR1.out, Pq.E_nm, ← HZ0.out, ← HP1.out]; simp only [Pq.E]; grind)
 have E2 : Hid (∀ x, Pq.E R2 x = x * 2) := Lib.hid (fun x => by rw [← HR2.out, Pq.E_nm, ← HZ0.out, ← HT2.out]; simp only [Pq.E]; grind)
 have E3 : Hid (∀ x, Pq.E R3 x = 1) := Lib.hid (fun x => by rw [← HR3.out, Pq.E_nm, ← HP1.out]; simp only [Pq.E]; grind)
 have E4 : Hid (∀ x, Pq.E R4 x = H2) := Lib.hid (fun x => by rw [← HR4.out, Pq.E_nm]; simp only [Pq.E]; grind)
 have HHT : Hid (H2 * 2 = 1) := Lib.hid (by rw [← HH2.out]; decide +kernel)
 have N1 : Hid (Pq.nm R1 ≠ []) := Lib.hid (fun e => by
  have h1 := Pq.E_of_nil e 1
  rw [E1.out] at h1
  exact absurd h1 (by decide))
 have N2 : Hid (Pq.nm R2 ≠ []) := Lib.hid (fun e => by
  have h1 := Pq.E_of_nil e 1
  rw [E2.out, Rat.one_mul] at h1
  exact absurd h1 (by decide))
 have l1 : R1.length ≤ 2 := by rw [← HR1.out]; exact Pq.nm_len _
 have l2 : R2.length ≤ 2 := by rw [← HR2.out]; exact Pq.nm_len _
 have l3 : R3.length ≤ 1 := by rw [← HR3.out]; exact Pq.nm_len _
 have l4 : R4.length ≤ 1 := by rw [← HR4.out]; exact Pq.nm_len _
 have LP1 : Hid (Pq.Lp (R1 ++ [1]) 7) := Lib.hid (Pq.lp_small (fun x hx => by
  rw [← HR1.out] at hx
  rcases List.mem_cons.1 (Pq.nm_mem hx) with e | e
  · rw [e]; exact LZ
  · rw [List.mem_singleton.1 e]; exact L1) lq_one l1)
 have LP2 : Hid (Pq.Lp (R2 ++ [1]) 7) := Lib.hid (Pq.lp_small (fun x hx => by
  rw [← HR2.out] at hx
  rcases List.mem_cons.1 (Pq.nm_mem hx) with e | e
  · rw [e]; exact LZ
  · rw [List.mem_singleton.1 e]; exact L2) lq_one l2)
 have LP3 : Hid (Pq.Lp (R3 ++ [1]) 7) := Lib.hid (Pq.lp_small (fun x hx => by
  rw [← HR3.out] at hx
  rw [List.mem_singleton.1 (Pq.nm_mem hx)]; exact L1) lq_one (by omega))
 have LP4 : Hid (Pq.Lp (R4 ++ [1]) 9) := Lib.hid ((Pq.Lp.few (k := 4) (fun x hx => by
  rcases List.mem_append.1 hx with hx | hx
  · rw [← HR4.out] at hx
    rw [List.mem_singleton.1 (Pq.nm_mem hx)]; exact LH
  · rw [List.mem_singleton.1 hx]; exact lq_one.mono (by omega))).mono (by rw [List.length_append]; simp; omega))
 have UP : Up w w := Up.refl w
 go_enter Tryz.func60, Tryz.ntmps60
 go_wp2_with fail
 ((with_reducible refine (frac_of0 _).mono ?_))
 rintro e W1 ⟨V1, rfl, z0, u1⟩
 replace UP := UP.trans u1
 clear u1
 rw [HZ0.out] at z0
 go_wp2_with fail
 ((with_reducible refine (frac_of (n := 1) (by omega) _).mono ?_))
 rintro e W2 ⟨V2, rfl, o1, u2⟩
 revert z0 UP
 revert u2
 refine lh2 ?_
 intro z0 UP
 rw [HP1.out] at o1
 go_wp2_with fail
 ((with_reducible refine (ratf_line (k := 2) (z0.fr LZ) (o1.fr L1) (by omega) (by omega) HR1).mono ?_))
 rintro e W3 ⟨V3, U3, rfl, xa, xb, u3⟩
 obtain ⟨Axa, cxa, rfl⟩ := xa.form
 obtain ⟨Axb, cxb, rfl⟩ := xb.form
 try simp only [List.length_cons, List.length_nil, Nat.zero_add] at xb
 revert o1 z0 UP
 revert u3
 refine lh3 ?_
 intro o1 z0 UP
 clear z0 o1
 go_upto_region 2 with fail
 have x1 := Bx.new 84 W3 [.slice Axa R1.length cxa, .slice Axb 1 cxb]
 have nu := ((Up.refl W3).alloc (.cells #[.slice Axa R1.length cxa, .slice Axb 1 cxb] 84))
 revert xa xb UP
 revert nu
 refine lh3 ?_
 intro xa xb UP
 generalize (W3.alloc (.cells #[.slice Axa R1.length cxa, .slice Axb 1 cxb] 84)) = W4 at *
 obtain ⟨x1_0, x1_1⟩ := x1.c2
 go_cut [2, 3] (fun t2 t3 wx => ∃ (g : Nat) (A B : Option Addr) (c d : Nat) (Q1 Q2 : List Rat), t2 = .pointer (some ⟨g, 0, none⟩) ∧ t3 = .bool true ∧ Bx 84 wx g [.slice A Q1.length c, .slice B Q2.length d] ∧ ARow 96 wx (.slice A Q1.length c) Q1 ∧ ARow 96 wx (.slice B Q2.length d) Q2 ∧ Hid (Pq.Can (Pq.nm (Pq.mul R1 [1])) (Pq.nm (Pq.mul [1] R2)) Q1 Q2) ∧ Hid (Pq.Lp (Q1 ++ Q2) 96) ∧ Hid (Q1.length ≤ 3 ∧ Q2.length ≤ 3) ∧ Bx 84 wx W3.heap.size [.slice Axa R1.length cxa, .slice Axb 1 cxb] ∧ ARow 2 wx (.slice Axa R1.length cxa) R1 ∧ ARow 2 wx (.slice Axb 1 cxb) [1] ∧ Up w wx)
 case first =>
  revert x1 xa xb UP x1_0 x1_1; refine lg6 (Up.refl W4).drew ?_; intro x1 xa xb UP x1_0 x1_1
  refine wp_region_noPanic ?_
  refine wp_region_held_drew (S := fun w' => Up w w' ∧ w'.cell? ⟨W3.heap.size, 0, none⟩ = some (.slice Axa R1.length cxa) ∧ w'.cell? ⟨W3.heap.size, 1, none⟩ = some (.slice Axb 1 cxb)) (by kernel_rfl) (by exact ⟨UP, x1_0, x1_1⟩) (fun hHeld => ?_)
  clear hHeld
  generalize W4.drew = WC at *
  have hHeld : Up w WC ∧ WC.cell? ⟨W3.heap.size, 0, none⟩ = some (.slice Axa R1.length cxa) ∧ WC.cell? ⟨W3.heap.size, 1, none⟩ = some (.slice Axb 1 cxb) := by exact ⟨UP, x1_0, x1_1⟩
  refine tk 0 ?_
  try simp only [gs, Act.put]
  repeat' first
   | (refine tk 5 ?_
      try simp only [gs, Act.put])
   | (refine tk 6 ?_
      try simp only [gs, Act.put])
   | (refine tk 7 ?_
      try simp only [gs, Act.put])
   | refine wpAnyH_ready (rs := [1, 8]) (by decide +kernel) (by simp) ?_
   | refine wpAnyH_ready (rs := [1]) (by decide +kernel) (by simp) ?_
   | refine wpAnyH_ready (rs := [2, 8]) (by decide +kernel) (by simp) ?_
   | refine wpAnyH_ready (rs := [2]) (by decide +kernel) (by simp) ?_
   | refine wpAnyH_ready (rs := [3, 8]) (by decide +kernel) (by simp) ?_
   | refine wpAnyH_ready (rs := [3]) (by decide +kernel) (by simp) ?_
   | refine wpAnyH_ready (rs := [4, 8]) (by decide +kernel) (by simp) ?_
   | refine wpAnyH_ready (rs := [4]) (by decide +kernel) (by simp) ?_
   | refine wpAnyH_ready (rs := [8]) (by decide +kernel) (by simp) ?_
   | refine wpAnyH_ready (rs := [9]) (by decide +kernel) (by simp) ?_
   | refine wpAnyH_ready (rs := [10]) (by decide +kernel) (by simp) ?_
   | refine AllReadyH.cons (i := 1) rfl (fun K hK1 => ?_) ?_
   | refine AllReadyH.cons (i := 2) rfl (fun K hK2 => ?_) ?_
   | refine AllReadyH.cons (i := 3) rfl (fun K hK3 => ?_) ?_
   | refine AllReadyH.cons (i := 4) rfl (fun K hK4 => ?_) ?_
   | refine AllReadyH.cons (i := 8) rfl (fun K hK8 => ?_) ?_
   | refine AllReadyH.cons (i := 9) rfl (fun K hK9 => ?_) ?_
   | refine AllReadyH.cons (i := 10) rfl (fun K hK10 => ?_) ?_
   | exact AllReadyH.nil
   | (have hK := hK1
      clear hK1
      (try clear hHeld)
      go_simp
      go_at_call 90
      ((with_reducible refine (frac_of0 _).mono ?_))
      rintro e WD ⟨V1, rfl, y0, uu⟩
      refine li4 uu xa xb x1 UP ?_; clear xa xb x1 UP; intro xa xb x1 UP
      try (replace y2 := y2.up uu)
      try (replace lu := lu.up uu)
      try (replace ld := ld.up uu)
      try (replace q1 := q1.up uu)
      try (replace q2 := q2.up uu)
      try (replace x2 := x2.up uu)
      clear uu
      obtain ⟨WC, hWC⟩ : ∃ W, W = WD := ⟨_, rfl⟩
      subst hWC
      clear x1_0 x1_1
      obtain ⟨x1_0, x1_1⟩ := x1.c2
      rw [HZ0.out] at y0
      try go_wp2_with fail
      refine hK.out _ _ (by exact ⟨UP, x1_0, x1_1⟩) (fun hHeld => ?_)
      clear hK K
      try simp only [gs, Act.put])
   | (have hK := hK2
      clear hK2
      (try clear hHeld)
      go_simp
      go_at_call 90
      ((with_reducible refine (frac_of (n := 2) (by omega) _).mono ?_))
      rintro e WD ⟨V2, rfl, y2, uu⟩
      refine li4 uu xa xb x1 UP ?_; clear xa xb x1 UP; intro xa xb x1 UP
      try (replace y0 := y0.up uu)
      try (replace lu := lu.up uu)
      try (replace ld := ld.up uu)
      try (replace q1 := q1.up uu)
      try (replace q2 := q2.up uu)
      try (replace x2 := x2.up uu)
      clear uu
      obtain ⟨WC, hWC⟩ : ∃ W, W = WD := ⟨_, rfl⟩
      subst hWC
      clear x1_0 x1_1
      obtain ⟨x1_0, x1_1⟩ := x1.c2
      rw [HT2.out] at y2
      try go_wp2_with fail
      refine hK.out _ _ (by exact ⟨UP, x1_0, x1_1⟩) (fun hHeld => ?_)
      clear hK K
      try simp only [gs, Act.put])
   | (have hK := hK3
      clear hK3
      (try clear hHeld)
      go_simp
      go_at_call 126
      ((with_reducible refine (ratf_line (k := 2) (y0.fr LZ) (y2.fr L2) (by omega) (by omega) HR2).mono ?_))
      rintro e WD ⟨V3, U3, rfl, lu, ld, uu⟩
      obtain ⟨Alu, clu, rfl⟩ := lu.form
      obtain ⟨Ald, cld, rfl⟩ := ld.form
      try simp only [List.length_cons, List.length_nil, Nat.zero_add] at ld
      refine li4 uu xa xb x1 UP ?_; clear xa xb x1 UP; intro xa xb x1 UP
      try (replace y0 := y0.up uu)
      try (replace y2 := y2.up uu)
      try (replace q1 := q1.up uu)
      try (replace q2 := q2.up uu)
      try (replace x2 := x2.up uu)
      clear uu
      obtain ⟨WC, hWC⟩ : ∃ W, W = WD := ⟨_, rfl⟩
      subst hWC
      clear x1_0 x1_1
      obtain ⟨x1_0, x1_1⟩ := x1.c2
      try go_wp2_with fail
      refine hK.out _ _ (by exact ⟨UP, x1_0, x1_1⟩) (fun hHeld => ?_)
      clear hK K
      try simp only [gs, Act.put])
   | (have hK := hK4
      clear hK4
      (try clear hHeld)
      go_simp
      go_at_call 77
      ((with_reducible refine (ratf_quo (k := 2) (m := 2) (m' := 2) xa.fs xb.fs l1 (by simp) (by omega) LP1.out lu.fs ld.fs l2 (by simp) (by omega) LP2.out 3 (by omega) (by omega) (K := 96) (by omega) (by omega) (by omega) (by omega) (Lib.hid (Pq.pu_of Pq.one_ne)) (Lib.hid (Pq.pd_of Pq.one_ne)) (Lib.hid (Pq.pu_of Pq.one_ne)) (Lib.hid (Pq.pd_of Pq.one_ne)) N2).mono ?_))
      rintro e WD ⟨V4, U4, psq1, qsq1, rfl, q1, q2, caq1, lpq1, leq1, uu⟩
      obtain ⟨Aq1, cq1, rfl⟩ := q1.form
      obtain ⟨Aq2, cq2, rfl⟩ := q2.form
      refine li4 uu xa xb x1 UP ?_; clear xa xb x1 UP; intro xa xb x1 UP
      try (replace y0 := y0.up uu)
      try (replace y2 := y2.up uu)
      try (replace lu := lu.up uu)
      try (replace ld := ld.up uu)
      try (replace x2 := x2.up uu)
      clear uu
      obtain ⟨WC, hWC⟩ : ∃ W, W = WD := ⟨_, rfl⟩
      subst hWC
      clear x1_0 x1_1
      obtain ⟨x1_0, x1_1⟩ := x1.c2
      try go_wp2_with fail
      refine hK.out _ _ (by exact ⟨UP, x1_0, x1_1⟩) (fun hHeld => ?_)
      clear hK K
      try simp only [gs, Act.put])
   | (have hK := hK8
      clear hK8
      (try clear hHeld)
      go_simp
      have x2 := Bx.new 84 WC [.slice none 0 0, .slice none 0 0]
      have x1_lt_x2 := x1.lt
      have x2_base := UP.size
      have nu := ((Up.refl WC).alloc (.cells #[.slice none 0 0, .slice none 0 0] 84))
      refine li4 nu xa xb x1 UP ?_; clear xa xb x1 UP; intro xa xb x1 UP
      try (replace y0 := y0.up nu)
      try (replace y2 := y2.up nu)
      try (replace lu := lu.up nu)
      try (replace ld := ld.up nu)
      try (replace q1 := q1.up nu)
      try (replace q2 := q2.up nu)
      clear nu
      generalize WC.alloc (.cells #[.slice none 0 0, .slice none 0 0] 84) = WD at *
      generalize WC.heap.size = gx2 at *
      obtain ⟨WC, hWC⟩ : ∃ W, W = WD := ⟨_, rfl⟩
      subst hWC
      clear x1_0 x1_1
      obtain ⟨x1_0, x1_1⟩ := x1.c2
      refine hK.out _ _ (by exact ⟨UP, x1_0, x1_1⟩) (fun hHeld => ?_)
      clear hK K
      try simp only [gs, Act.put])
   | (have hK := hK9
      clear hK9
      (try clear hHeld)
      obtain ⟨ce0, ce1⟩ := x2.c2
      have fr0 := x2.free 0
      have fr1 := x2.free 1
      go_simp
      clear ce0 ce1 fr0 fr1
      have KW : Kw (WC) ((WC).setCell ⟨gx2, 0, none⟩ (.slice Aq1 psq1.length cq1)) := Kw.store (c := (.slice none 0 0)) x2 rfl trivial _
      replace xa := xa.stored x2 (by decide) KW
      replace xb := xb.stored x2 (by decide) KW
      try (replace y0 := y0.kw KW)
      try (replace y2 := y2.kw KW)
      try (replace lu := lu.stored x2 (by decide) KW)
      try (replace ld := ld.stored x2 (by decide) KW)
      try (replace q1 := q1.stored x2 (by decide) KW)
      try (replace q2 := q2.stored x2 (by decide) KW)
      replace x1 := x1.fr gx2 0 (.slice Aq1 psq1.length cq1)
      replace x2 : Bx 84 ((WC).setCell ⟨gx2, 0, none⟩ (.slice Aq1 psq1.length cq1)) (gx2) [.slice Aq1 psq1.length cq1, .slice none 0 0] := x2.set 0 (.slice Aq1 psq1.length cq1)
      replace UP := UP.setCell (p := ⟨gx2, 0, none⟩) (by dsimp only; omega) (.slice Aq1 psq1.length cq1)
      have KW : Kw (((WC).setCell ⟨gx2, 0, none⟩ (.slice Aq1 psq1.length cq1))) ((((WC).setCell ⟨gx2, 0, none⟩ (.slice Aq1 psq1.length cq1))).setCell ⟨gx2, 1, none⟩ (.slice Aq2 qsq1.length cq2)) := Kw.store (c := (.slice none 0 0)) x2 rfl trivial _
      replace xa := xa.stored x2 (by decide) KW
      replace xb := xb.stored x2 (by decide) KW
      try (replace y0 := y0.kw KW)
      try (replace y2 := y2.kw KW)
      try (replace lu := lu.stored x2 (by decide) KW)
      try (replace ld := ld.stored x2 (by decide) KW)
      try (replace q1 := q1.stored x2 (by decide) KW)
      try (replace q2 := q2.stored x2 (by decide) KW)
      replace x1 := x1.fr gx2 1 (.slice Aq2 qsq1.length cq2)
      replace x2 : Bx 84 ((((WC).setCell ⟨gx2, 0, none⟩ (.slice Aq1 psq1.length cq1))).setCell ⟨gx2, 1, none⟩ (.slice Aq2 qsq1.length cq2)) (gx2) [.slice Aq1 psq1.length cq1, .slice Aq2 qsq1.length cq2] := x2.set 1 (.slice Aq2 qsq1.length cq2)
      replace UP := UP.setCell (p := ⟨gx2, 1, none⟩) (by dsimp only; omega) (.slice Aq2 qsq1.length cq2)
      clear KW
      generalize ((((WC).setCell ⟨gx2, 0, none⟩ (.slice Aq1 psq1.length cq1))).setCell ⟨gx2, 1, none⟩ (.slice Aq2 qsq1.length cq2)) = WD at *
      obtain ⟨WC, hWC⟩ : ∃ W, W = WD := ⟨_, rfl⟩
      subst hWC
      clear x1_0 x1_1
      obtain ⟨x1_0, x1_1⟩ := x1.c2
      refine hK.out _ _ (by exact ⟨UP, x1_0, x1_1⟩) (fun hHeld => ?_)
      clear hK K
      try simp only [gs, Act.put])
   | (have hK := hK10
      clear hK10
      (try clear hHeld)
      go_simp
      refine hK.out _ _ (by exact ⟨UP, x1_0, x1_1⟩) (fun hHeld => ?_)
      clear hK K
      try simp only [gs, Act.put])
   | refine wpAnyH_done (by decide +kernel) (NoPanic.normal ?_) _
   | fail
  all_goals try clear hHeld
  all_goals obtain ⟨x2_0, x2_1⟩ := x2.c2
  all_goals
   go_wp2_with fail
   go_meet
   exact ⟨gx2, _, _, _, _, _, _, rfl, rfl, x2, q1, q2, caq1, lpq1, leq1, x1, xa, xb, UP⟩
 case rest =>
  obtain ⟨g2, A, B, c, d, Q1, Q2, rfl, rfl, x2, q1, q2, CQ, LQ, EQ, x1, xa, xb, UP⟩ := hcut
  clear x1_0 x1_1
  obtain ⟨x1_0, x1_1⟩ := x1.c2
  obtain ⟨x2_0, x2_1⟩ := x2.c2
  go_wp2_with fail
  ((with_reducible refine (frac_ratio (n := 1) (d := 2) (by omega) (by omega) _).mono ?_))
  rintro e W51 ⟨V51, rfl, hf, u51⟩
  revert x2 q1 q2 x1 xa xb UP x1_0 x1_1 x2_0 x2_1; revert u51; refine lh11 ?_; intro x2 q1 q2 x1 xa xb UP x1_0 x1_1 x2_0 x2_1
  rw [HH2.out] at hf
  obtain ⟨Xhf, Yhf, rfl, hf, hfd⟩ := hf
  obtain ⟨Ahf, nhf, chf, rfl⟩ := hf.shape
  obtain ⟨Ahfd, nhfd, chfd, rfl⟩ := hfd.shape
  have x1_0a := cA x1_0
  have x1_1a := cA x1_1
  have x2_0a := cA x2_0
  have x2_1a := cA x2_1
  go_upto_region 4 with fail
  clear x1_0a x1_1a x2_0a x2_1a
  have x4 := Bx.new 34 W51 [.bool (Wd.ngb H2.num), .slice Ahf nhf chf, .slice Ahfd nhfd chfd]
  have x1_lt_x4 := x1.lt
  have x2_lt_x4 := x2.lt
  have nu := ((Up.refl W51).alloc (.cells #[.bool (Wd.ngb H2.num), .slice Ahf nhf chf, .slice Ahfd nhfd chfd] 34))
  revert x2 q1 q2 x1 xa xb UP hf hfd; revert nu; refine lh9 ?_; intro x2 q1 q2 x1 xa xb UP hf hfd
  generalize (W51.alloc (.cells #[.bool (Wd.ngb H2.num), .slice Ahf nhf chf, .slice Ahfd nhfd chfd] 34)) = W52 at *
  clear x1_0 x1_1 x2_0 x2_1
  obtain ⟨x1_0, x1_1⟩ := x1.c2
  obtain ⟨x2_0, x2_1⟩ := x2.c2
  obtain ⟨x4_0, x4_1, x4_2⟩ := x4.c3
  go_cut [6, 7] (fun t6 t7 wx => ∃ (g : Nat) (A' B' : Option Addr) (c' d' : Nat) (O1 O2 : List Rat), t6 = .pointer (some ⟨g, 0, none⟩) ∧ t7 = .bool true ∧ Bx 84 wx g [.slice A' O1.length c', .slice B' O2.length d'] ∧ ARow 96 wx (.slice A' O1.length c') O1 ∧ ARow 96 wx (.slice B' O2.length d') O2 ∧ Hid (Pq.Can (Pq.nm (Pq.mul R3 [1])) (Pq.nm (Pq.mul [1] R1)) O1 O2) ∧ Hid (Pq.Lp (O1 ++ O2) 96) ∧ Hid (O1.length ≤ 3 ∧ O2.length ≤ 3) ∧ Bx 84 wx g2 [.slice A Q1.length c, .slice B Q2.length d] ∧ Bx 34 wx W51.heap.size [.bool (Wd.ngb H2.num), .slice Ahf nhf chf, .slice Ahfd nhfd chfd] ∧ ARow 96 wx (.slice A Q1.length c) Q1 ∧ ARow 96 wx (.slice B Q2.length d) Q2 ∧ Ws wx (.slice Ahf nhf chf) (Wd.words H2.num.natAbs) ∧ Ws wx (.slice Ahfd nhfd chfd) (Wd.words H2.den) ∧ Up w wx)
  case first =>
   revert x4 x2 q1 q2 x1 xa xb UP hf hfd x1_0 x1_1; refine lg12 (Up.refl W52).drew ?_; intro x4 x2 q1 q2 x1 xa xb UP hf hfd x1_0 x1_1; revert x2_0 x2_1 x4_0 x4_1 x4_2; refine lg5 (Up.refl W52).drew ?_; intro x2_0 x2_1 x4_0 x4_1 x4_2
   refine wp_region_noPanic ?_
   refine wp_region_held_drew (S := fun w' => Up w w' ∧ w'.cell? ⟨W3.heap.size, 0, none⟩ = some (.slice Axa R1.length cxa) ∧ w'.cell? ⟨W3.heap.size, 1, none⟩ = some (.slice Axb 1 cxb)) (by kernel_rfl) (by exact ⟨UP, x1_0, x1_1⟩) (fun hHeld => ?_)
   clear hHeld
   generalize W52.drew = WC at *
   have hHeld : Up w WC ∧ WC.cell? ⟨W3.heap.size, 0, none⟩ = some (.slice Axa R1.length cxa) ∧ WC.cell? ⟨W3.heap.size, 1, none⟩ = some (.slice Axb 1 cxb) := by exact ⟨UP, x1_0, x1_1⟩
   refine tk 2 ?_
   try simp only [gs, Act.put]
   repeat' first
    | (refine tk 4 ?_
       try simp only [gs, Act.put])
    | (refine tk 5 ?_
       try simp only [gs, Act.put])
    | (refine tk 6 ?_
       try simp only [gs, Act.put])
    | refine wpAnyH_ready (rs := [0, 7]) (by decide +kernel) (by simp) ?_
    | refine wpAnyH_ready (rs := [0]) (by decide +kernel) (by simp) ?_
    | refine wpAnyH_ready (rs := [1, 7]) (by decide +kernel) (by simp) ?_
    | refine wpAnyH_ready (rs := [1]) (by decide +kernel) (by simp) ?_
    | refine wpAnyH_ready (rs := [3, 7]) (by decide +kernel) (by simp) ?_
    | refine wpAnyH_ready (rs := [3]) (by decide +kernel) (by simp) ?_
    | refine wpAnyH_ready (rs := [7]) (by decide +kernel) (by simp) ?_
    | refine wpAnyH_ready (rs := [8]) (by decide +kernel) (by simp) ?_
    | refine wpAnyH_ready (rs := [9]) (by decide +kernel) (by simp) ?_
    | refine AllReadyH.cons (i := 0) rfl (fun K hK0 => ?_) ?_
    | refine AllReadyH.cons (i := 1) rfl (fun K hK1 => ?_) ?_
    | refine AllReadyH.cons (i := 3) rfl (fun K hK3 => ?_) ?_
    | refine AllReadyH.cons (i := 7) rfl (fun K hK7 => ?_) ?_
    | refine AllReadyH.cons (i := 8) rfl (fun K hK8 => ?_) ?_
    | refine AllReadyH.cons (i := 9) rfl (fun K hK9 => ?_) ?_
    | exact AllReadyH.nil
    | (have hK := hK0
       clear hK0
       (try clear hHeld)
       go_simp
       go_at_call 90
       ((with_reducible refine (frac_of (n := 1) (by omega) _).mono ?_))
       rintro e WD ⟨V0, rfl, y1, uu⟩
       refine li10 uu xa xb q1 q2 hf hfd x1 x2 x4 UP ?_; clear xa xb q1 q2 hf hfd x1 x2 x4 UP; intro xa xb q1 q2 hf hfd x1 x2 x4 UP
       try (replace lu := lu.up uu)
       try (replace ld := ld.up uu)
       try (replace o1 := o1.up uu)
       try (replace o2 := o2.up uu)
       try (replace x6 := x6.up uu)
       clear uu
       obtain ⟨WC, hWC⟩ : ∃ W, W = WD := ⟨_, rfl⟩
       subst hWC
       clear x1_0 x1_1
       obtain ⟨x1_0, x1_1⟩ := x1.c2
       clear x2_0 x2_1
       obtain ⟨x2_0, x2_1⟩ := x2.c2
       clear x4_0 x4_1 x4_2
       obtain ⟨x4_0, x4_1, x4_2⟩ := x4.c3
       rw [HP1.out] at y1
       try go_wp2_with fail
       refine hK.out _ _ (by exact ⟨UP, x1_0, x1_1⟩) (fun hHeld => ?_)
       clear hK K
       try simp only [gs, Act.put])
    | (have hK := hK1
       clear hK1
       (try clear hHeld)
       go_simp
       go_at_call 76
       ((with_reducible refine (ratf_of (k := 2) (y1.fr L1) (by omega) (by omega) HR3).mono ?_))
       rintro e WD ⟨V1, U1, rfl, lu, ld, uu⟩
       obtain ⟨Alu, clu, rfl⟩ := lu.form
       obtain ⟨Ald, cld, rfl⟩ := ld.form
       try simp only [List.length_cons, List.length_nil, Nat.zero_add] at ld
       refine li10 uu xa xb q1 q2 hf hfd x1 x2 x4 UP ?_; clear xa xb q1 q2 hf hfd x1 x2 x4 UP; intro xa xb q1 q2 hf hfd x1 x2 x4 UP
       try (replace y1 := y1.up uu)
       try (replace o1 := o1.up uu)
       try (replace o2 := o2.up uu)
       try (replace x6 := x6.up uu)
       clear uu
       obtain ⟨WC, hWC⟩ : ∃ W, W = WD := ⟨_, rfl⟩
       subst hWC
       clear x1_0 x1_1
       obtain ⟨x1_0, x1_1⟩ := x1.c2
       clear x2_0 x2_1
       obtain ⟨x2_0, x2_1⟩ := x2.c2
       clear x4_0 x4_1 x4_2
       obtain ⟨x4_0, x4_1, x4_2⟩ := x4.c3
       try go_wp2_with fail
       refine hK.out _ _ (by exact ⟨UP, x1_0, x1_1⟩) (fun hHeld => ?_)
       clear hK K
       try simp only [gs, Act.put])
    | (have hK := hK3
       clear hK3
       (try clear hHeld)
       go_simp
       go_at_call 77
       ((with_reducible refine (ratf_quo (k := 2) (m := 1) (m' := 2) lu.fs ld.fs l3 (by simp) (by omega) LP3.out xa.fs xb.fs l1 (by simp) (by omega) LP1.out 3 (by omega) (by omega) (K := 96) (by omega) (by omega) (by omega) (by omega) (Lib.hid (Pq.pu_of Pq.one_ne)) (Lib.hid (Pq.pd_of Pq.one_ne)) (Lib.hid (Pq.pu_of Pq.one_ne)) (Lib.hid (Pq.pd_of Pq.one_ne)) N1).mono ?_))
       rintro e WD ⟨V3, U3, pso1, qso1, rfl, o1, o2, cao1, lpo1, leo1, uu⟩
       obtain ⟨Ao1, co1, rfl⟩ := o1.form
       obtain ⟨Ao2, co2, rfl⟩ := o2.form
       refine li10 uu xa xb q1 q2 hf hfd x1 x2 x4 UP ?_; clear xa xb q1 q2 hf hfd x1 x2 x4 UP; intro xa xb q1 q2 hf hfd x1 x2 x4 UP
       try (replace y1 := y1.up uu)
       try (replace lu := lu.up uu)
       try (replace ld := ld.up uu)
       try (replace x6 := x6.up uu)
       clear uu
       obtain ⟨WC, hWC⟩ : ∃ W, W = WD := ⟨_, rfl⟩
       subst hWC
       clear x1_0 x1_1
       obtain ⟨x1_0, x1_1⟩ := x1.c2
       clear x2_0 x2_1
       obtain ⟨x2_0, x2_1⟩ := x2.c2
       clear x4_0 x4_1 x4_2
       obtain ⟨x4_0, x4_1, x4_2⟩ := x4.c3
       try go_wp2_with fail
       refine hK.out _ _ (by exact ⟨UP, x1_0, x1_1⟩) (fun hHeld => ?_)
       clear hK K
       try simp only [gs, Act.put])
    | (have hK := hK7
       clear hK7
       (try clear hHeld)
       go_simp
       have x6 := Bx.new 84 WC [.slice none 0 0, .slice none 0 0]
       have x1_lt_x6 := x1.lt
       have x2_lt_x6 := x2.lt
       have x4_lt_x6 := x4.lt
       have x6_base := UP.size
       have nu := ((Up.refl WC).alloc (.cells #[.slice none 0 0, .slice none 0 0] 84))
       refine li10 nu xa xb q1 q2 hf hfd x1 x2 x4 UP ?_; clear xa xb q1 q2 hf hfd x1 x2 x4 UP; intro xa xb q1 q2 hf hfd x1 x2 x4 UP
       try (replace y1 := y1.up nu)
       try (replace lu := lu.up nu)
       try (replace ld := ld.up nu)
       try (replace o1 := o1.up nu)
       try (replace o2 := o2.up nu)
       clear nu
       generalize WC.alloc (.cells #[.slice none 0 0, .slice none 0 0] 84) = WD at *
       generalize WC.heap.size = gx6 at *
       obtain ⟨WC, hWC⟩ : ∃ W, W = WD := ⟨_, rfl⟩
       subst hWC
       clear x1_0 x1_1
       obtain ⟨x1_0, x1_1⟩ := x1.c2
       clear x2_0 x2_1
       obtain ⟨x2_0, x2_1⟩ := x2.c2
       clear x4_0 x4_1 x4_2
       obtain ⟨x4_0, x4_1, x4_2⟩ := x4.c3
       refine hK.out _ _ (by exact ⟨UP, x1_0, x1_1⟩) (fun hHeld => ?_)
       clear hK K
       try simp only [gs, Act.put])
    | (have hK := hK8
       clear hK8
       (try clear hHeld)
       obtain ⟨ce0, ce1⟩ := x6.c2
       have fr0 := x6.free 0
       have fr1 := x6.free 1
       go_simp
       clear ce0 ce1 fr0 fr1
       have KW : Kw (WC) ((WC).setCell ⟨gx6, 0, none⟩ (.slice Ao1 pso1.length co1)) := Kw.store (c := (.slice none 0 0)) x6 rfl trivial _
       replace xa := xa.stored x6 (by decide) KW
       replace xb := xb.stored x6 (by decide) KW
       replace q1 := q1.stored x6 (by decide) KW
       replace q2 := q2.stored x6 (by decide) KW
       refine li2 KW hf hfd ?_; clear hf hfd; intro hf hfd
       try (replace y1 := y1.kw KW)
       try (replace lu := lu.stored x6 (by decide) KW)
       try (replace ld := ld.stored x6 (by decide) KW)
       try (replace o1 := o1.stored x6 (by decide) KW)
       try (replace o2 := o2.stored x6 (by decide) KW)
       replace x1 := x1.fr gx6 0 (.slice Ao1 pso1.length co1)
       replace x2 := x2.fr gx6 0 (.slice Ao1 pso1.length co1)
       replace x4 := x4.fr gx6 0 (.slice Ao1 pso1.length co1)
       replace x6 : Bx 84 ((WC).setCell ⟨gx6, 0, none⟩ (.slice Ao1 pso1.length co1)) (gx6) [.slice Ao1 pso1.length co1, .slice none 0 0] := x6.set 0 (.slice Ao1 pso1.length co1)
       replace UP := UP.setCell (p := ⟨gx6, 0, none⟩) (by dsimp only; omega) (.slice Ao1 pso1.length co1)
       have KW : Kw (((WC).setCell ⟨gx6, 0, none⟩ (.slice Ao1 pso1.length co1))) ((((WC).setCell ⟨gx6, 0, none⟩ (.slice Ao1 pso1.length co1))).setCell ⟨gx6, 1, none⟩ (.slice Ao2 qso1.length co2)) := Kw.store (c := (.slice none 0 0)) x6 rfl trivial _
       replace xa := xa.stored x6 (by decide) KW
       replace xb := xb.stored x6 (by decide) KW
       replace q1 := q1.stored x6 (by decide) KW
       replace q2 := q2.stored x6 (by decide) KW
       revert hf hfd; refine lg2 KW ?_; intro hf hfd
       try (replace y1 := y1.kw KW)
       try (replace lu := lu.stored x6 (by decide) KW)
       try (replace ld := ld.stored x6 (by decide) KW)
       try (replace o1 := o1.stored x6 (by decide) KW)
       try (replace o2 := o2.stored x6 (by decide) KW)
       replace x1 := x1.fr gx6 1 (.slice Ao2 qso1.length co2)
       replace x2 := x2.fr gx6 1 (.slice Ao2 qso1.length co2)
       replace x4 := x4.fr gx6 1 (.slice Ao2 qso1.length co2)
       replace x6 : Bx 84 ((((WC).setCell ⟨gx6, 0, none⟩ (.slice Ao1 pso1.length co1))).setCell ⟨gx6, 1, none⟩ (.slice Ao2 qso1.length co2)) (gx6) [.slice Ao1 pso1.length co1, .slice Ao2 qso1.length co2] := x6.set 1 (.slice Ao2 qso1.length co2)
       replace UP := UP.setCell (p := ⟨gx6, 1, none⟩) (by dsimp only; omega) (.slice Ao2 qso1.length co2)
       clear KW
       generalize ((((WC).setCell ⟨gx6, 0, none⟩ (.slice Ao1 pso1.length co1))).setCell ⟨gx6, 1, none⟩ (.slice Ao2 qso1.length co2)) = WD at *
       obtain ⟨WC, hWC⟩ : ∃ W, W = WD := ⟨_, rfl⟩
       subst hWC
       clear x1_0 x1_1
       obtain ⟨x1_0, x1_1⟩ := x1.c2
       clear x2_0 x2_1
       obtain ⟨x2_0, x2_1⟩ := x2.c2
       clear x4_0 x4_1 x4_2
       obtain ⟨x4_0, x4_1, x4_2⟩ := x4.c3
       refine hK.out _ _ (by exact ⟨UP, x1_0, x1_1⟩) (fun hHeld => ?_)
       clear hK K
       try simp only [gs, Act.put])
    | (have hK := hK9
       clear hK9
       (try clear hHeld)
       go_simp
       refine hK.out _ _ (by exact ⟨UP, x1_0, x1_1⟩) (fun hHeld => ?_)
       clear hK K
       try simp only [gs, Act.put])
    | refine wpAnyH_done (by decide +kernel) (NoPanic.normal ?_) _
    | fail
   all_goals try clear hHeld
   all_goals obtain ⟨x6_0, x6_1⟩ := x6.c2
   all_goals
    go_wp2_with fail
    go_meet
    exact ⟨gx6, _, _, _, _, _, _, rfl, rfl, x6, o1, o2, cao1, lpo1, leo1, x2, x4, q1, q2, hf, hfd, UP⟩
  case rest =>
   obtain ⟨g6, A', B', c', d', O1, O2, rfl, rfl, x6, o1, o2, CO, LO, EO, x2, x4, q1, q2, hf, hfd, UP⟩ := hcut
   clear x1_0 x1_1 x2_0 x2_1 x4_0 x4_1 x4_2 xa xb x1
   obtain ⟨x2_0, x2_1⟩ := x2.c2
   obtain ⟨x4_0, x4_1, x4_2⟩ := x4.c3
   obtain ⟨x6_0, x6_1⟩ := x6.c2
   go_upto_region 5 with fail
   go_cut [9] (fun t9 wx => t9 = .bool false ∧ Bx 84 wx g2 [.slice A Q1.length c, .slice B Q2.length d] ∧ Bx 34 wx W51.heap.size [.bool (Wd.ngb H2.num), .slice Ahf nhf chf, .slice Ahfd nhfd chfd] ∧ Bx 84 wx g6 [.slice A' O1.length c', .slice B' O2.length d'] ∧ ARow 96 wx (.slice A Q1.length c) Q1 ∧ ARow 96 wx (.slice B Q2.length d) Q2 ∧ ARow 96 wx (.slice A' O1.length c') O1 ∧ ARow 96 wx (.slice B' O2.length d') O2 ∧ Ws wx (.slice Ahf nhf chf) (Wd.words H2.num.natAbs) ∧ Ws wx (.slice Ahfd nhfd chfd) (Wd.words H2.den) ∧ Up w wx)
   case first =>
    revert x6 o1 o2 x2 x4 q1 q2 hf hfd UP x2_0 x2_1; refine lg12 (Up.refl wc).drew ?_; intro x6 o1 o2 x2 x4 q1 q2 hf hfd UP x2_0 x2_1; revert x4_0 x4_1 x4_2 x6_0 x6_1; refine lg5 (Up.refl wc).drew ?_; intro x4_0 x4_1 x4_2 x6_0 x6_1
    refine wp_region_noPanic ?_
    refine wp_region_held_drew (S := fun w' => Up w w' ∧ w'.cell? ⟨g6, 0, none⟩ = some (.slice A' O1.length c') ∧ w'.cell? ⟨g6, 1, none⟩ = some (.slice B' O2.length d')) (by kernel_rfl) (by exact ⟨UP, x6_0, x6_1⟩) (fun hHeld => ?_)
    clear hHeld
    generalize wc.drew = WC at *
    have hHeld : Up w WC ∧ WC.cell? ⟨g6, 0, none⟩ = some (.slice A' O1.length c') ∧ WC.cell? ⟨g6, 1, none⟩ = some (.slice B' O2.length d') := by exact ⟨UP, x6_0, x6_1⟩
    refine tk 0 ?_
    try simp only [gs, Act.put]
    repeat' first
     | (refine tk 3 ?_
        try simp only [gs, Act.put])
     | (refine tk 4 ?_
        try simp only [gs, Act.put])
     | (refine tk 5 ?_
        try simp only [gs, Act.put])
     | refine wpAnyH_ready (rs := [1, 6]) (by decide +kernel) (by simp) ?_
     | refine wpAnyH_ready (rs := [1]) (by decide +kernel) (by simp) ?_
     | refine wpAnyH_ready (rs := [2, 6]) (by decide +kernel) (by simp) ?_
     | refine wpAnyH_ready (rs := [2]) (by decide +kernel) (by simp) ?_
     | refine wpAnyH_ready (rs := [6]) (by decide +kernel) (by simp) ?_
     | refine wpAnyH_ready (rs := [7]) (by decide +kernel) (by simp) ?_
     | refine wpAnyH_ready (rs := [8]) (by decide +kernel) (by simp) ?_
     | refine AllReadyH.cons (i := 1) rfl (fun K hK1 => ?_) ?_
     | refine AllReadyH.cons (i := 2) rfl (fun K hK2 => ?_) ?_
     | refine AllReadyH.cons (i := 6) rfl (fun K hK6 => ?_) ?_
     | refine AllReadyH.cons (i := 7) rfl (fun K hK7 => ?_) ?_
     | refine AllReadyH.cons (i := 8) rfl (fun K hK8 => ?_) ?_
     | exact AllReadyH.nil
     | (have hK := hK1
        clear hK1
        (try clear hHeld)
        go_simp
        go_at_call 90
        ((with_reducible refine (frac_of0 _).mono ?_))
        rintro e WD ⟨V1, rfl, y0, uu⟩
        refine li10 uu q1 q2 o1 o2 hf hfd x2 x4 x6 UP ?_; clear q1 q2 o1 o2 hf hfd x2 x4 x6 UP; intro q1 q2 o1 o2 hf hfd x2 x4 x6 UP
        try (replace ev := ev.up uu)
        try (replace evd := evd.up uu)
        try (replace x8 := x8.up uu)
        clear uu
        obtain ⟨WC, hWC⟩ : ∃ W, W = WD := ⟨_, rfl⟩
        subst hWC
        clear x2_0 x2_1
        obtain ⟨x2_0, x2_1⟩ := x2.c2
        clear x4_0 x4_1 x4_2
        obtain ⟨x4_0, x4_1, x4_2⟩ := x4.c3
        clear x6_0 x6_1
        obtain ⟨x6_0, x6_1⟩ := x6.c2
        rw [HZ0.out] at y0
        try go_wp2_with fail
        refine hK.out _ _ (by exact ⟨UP, x6_0, x6_1⟩) (fun hHeld => ?_)
        clear hK K
        try simp only [gs, Act.put])
     | (have hK := hK2
        clear hK2
        (try clear hHeld)
        go_simp
        go_at_call 66
        ((with_reducible refine (ratf_eval (k := 96) (m := 3) (kz := 2) o1.fs o2.fs EO.out.1 EO.out.2 (by omega) (by omega) LO.out (K := 582) (by omega) (by omega) (by omega) (by omega) (Lib.hid (Pq.pu_of CO.out.nd)) (Lib.hid (Pq.pd_of CO.out.nd)) (y0.fr LZ) (KE := 4000) (by omega) (by omega) (by omega)).mono ?_))
        rintro e WD ⟨V2, usev, dsev, rfl, ev, caev, lvev, uu⟩
        refine li10 uu q1 q2 o1 o2 hf hfd x2 x4 x6 UP ?_; clear q1 q2 o1 o2 hf hfd x2 x4 x6 UP; intro q1 q2 o1 o2 hf hfd x2 x4 x6 UP
        try (replace y0 := y0.up uu)
        try (replace evd := evd.up uu)
        try (replace x8 := x8.up uu)
        clear uu
        obtain ⟨WC, hWC⟩ : ∃ W, W = WD := ⟨_, rfl⟩
        subst hWC
        clear x2_0 x2_1
        obtain ⟨x2_0, x2_1⟩ := x2.c2
        clear x4_0 x4_1 x4_2
        obtain ⟨x4_0, x4_1, x4_2⟩ := x4.c3
        clear x6_0 x6_1
        obtain ⟨x6_0, x6_1⟩ := x6.c2
        rw [show (!decide (Pq.E dsev Z0 = 0)) = false by (rw [← HZ0.out]; exact Pq.w15_over E1.out E3.out N1.out CO.out caev.out)]
        clear caev lvev
        generalize Pq.E usev Z0 / Pq.E dsev Z0 = qv at *
        obtain ⟨Xev, Yev, rfl, ev, evd⟩ := ev
        obtain ⟨Aev, nev, cev, rfl⟩ := ev.shape
        obtain ⟨Aevd, nevd, cevd, rfl⟩ := evd.shape
        try go_wp2_with fail
        refine hK.out _ _ (by exact ⟨UP, x6_0, x6_1⟩) (fun hHeld => ?_)
        clear hK K
        try simp only [gs, Act.put])
     | (have hK := hK6
        clear hK6
        (try clear hHeld)
        go_simp
        have x8 := Bx.new 34 WC [.bool false, .slice none 0 0, .slice none 0 0]
        have x2_lt_x8 := x2.lt
        have x4_lt_x8 := x4.lt
        have x6_lt_x8 := x6.lt
        have x8_base := UP.size
        have q1_ne_x8 := q1.ne
        have q2_ne_x8 := q2.ne
        have o1_ne_x8 := o1.ne
        have o2_ne_x8 := o2.ne
        have nu := ((Up.refl WC).alloc (.cells #[.bool false, .slice none 0 0, .slice none 0 0] 34))
        refine li10 nu q1 q2 o1 o2 hf hfd x2 x4 x6 UP ?_; clear q1 q2 o1 o2 hf hfd x2 x4 x6 UP; intro q1 q2 o1 o2 hf hfd x2 x4 x6 UP
        try (replace y0 := y0.up nu)
        try (replace ev := ev.up nu)
        try (replace evd := evd.up nu)
        clear nu
        generalize WC.alloc (.cells #[.bool false, .slice none 0 0, .slice none 0 0] 34) = WD at *
        generalize WC.heap.size = gx8 at *
        obtain ⟨WC, hWC⟩ : ∃ W, W = WD := ⟨_, rfl⟩
        subst hWC
        clear x2_0 x2_1
        obtain ⟨x2_0, x2_1⟩ := x2.c2
        clear x4_0 x4_1 x4_2
        obtain ⟨x4_0, x4_1, x4_2⟩ := x4.c3
        clear x6_0 x6_1
        obtain ⟨x6_0, x6_1⟩ := x6.c2
        refine hK.out _ _ (by exact ⟨UP, x6_0, x6_1⟩) (fun hHeld => ?_)
        clear hK K
        try simp only [gs, Act.put])
     | (have hK := hK7
        clear hK7
        (try clear hHeld)
        obtain ⟨ce0, ce1, ce2⟩ := x8.c3
        have fr0 := x8.free 0
        have fr1 := x8.free 1
        have fr2 := x8.free 2
        go_simp
        clear ce0 ce1 ce2 fr0 fr1 fr2
        have KW : Kw (WC) ((WC).setCell ⟨gx8, 0, none⟩ (.bool (Wd.ngb qv.num))) := Kw.store (c := (.bool false)) x8 rfl trivial _
        replace q1 := q1.stored2 q1_ne_x8 KW
        replace q2 := q2.stored2 q2_ne_x8 KW
        replace o1 := o1.stored2 o1_ne_x8 KW
        replace o2 := o2.stored2 o2_ne_x8 KW
        refine li2 KW hf hfd ?_; clear hf hfd; intro hf hfd
        try (replace y0 := y0.kw KW)
        try (replace ev := ev.kw KW)
        try (replace evd := evd.kw KW)
        replace x2 := x2.fr gx8 0 (.bool (Wd.ngb qv.num))
        replace x4 := x4.fr gx8 0 (.bool (Wd.ngb qv.num))
        replace x6 := x6.fr gx8 0 (.bool (Wd.ngb qv.num))
        replace x8 : Bx 34 ((WC).setCell ⟨gx8, 0, none⟩ (.bool (Wd.ngb qv.num))) (gx8) [.bool (Wd.ngb qv.num), .slice none 0 0, .slice none 0 0] := x8.set 0 (.bool (Wd.ngb qv.num))
        replace UP := UP.setCell (p := ⟨gx8, 0, none⟩) (by dsimp only; omega) (.bool (Wd.ngb qv.num))
        have KW : Kw (((WC).setCell ⟨gx8, 0, none⟩ (.bool (Wd.ngb qv.num)))) ((((WC).setCell ⟨gx8, 0, none⟩ (.bool (Wd.ngb qv.num)))).setCell ⟨gx8, 1, none⟩ (.slice Aev nev cev)) := Kw.store (c := (.slice none 0 0)) x8 rfl trivial _
        replace q1 := q1.stored2 q1_ne_x8 KW
        replace q2 := q2.stored2 q2_ne_x8 KW
        replace o1 := o1.stored2 o1_ne_x8 KW
        replace o2 := o2.stored2 o2_ne_x8 KW
        revert hf hfd; refine lg2 KW ?_; intro hf hfd
        try (replace y0 := y0.kw KW)
        try (replace ev := ev.kw KW)
        try (replace evd := evd.kw KW)
        replace x2 := x2.fr gx8 1 (.slice Aev nev cev)
        replace x4 := x4.fr gx8 1 (.slice Aev nev cev)
        replace x6 := x6.fr gx8 1 (.slice Aev nev cev)
        replace x8 : Bx 34 ((((WC).setCell ⟨gx8, 0, none⟩ (.bool (Wd.ngb qv.num)))).setCell ⟨gx8, 1, none⟩ (.slice Aev nev cev)) (gx8) [.bool (Wd.ngb qv.num), .slice Aev nev cev, .slice none 0 0] := x8.set 1 (.slice Aev nev cev)
        replace UP := UP.setCell (p := ⟨gx8, 1, none⟩) (by dsimp only; omega) (.slice Aev nev cev)
        have KW : Kw (((((WC).setCell ⟨gx8, 0, none⟩ (.bool (Wd.ngb qv.num)))).setCell ⟨gx8, 1, none⟩ (.slice Aev nev cev))) ((((((WC).setCell ⟨gx8, 0, none⟩ (.bool (Wd.ngb qv.num)))).setCell ⟨gx8, 1, none⟩ (.slice Aev nev cev))).setCell ⟨gx8, 2, none⟩ (.slice Aevd nevd cevd)) := Kw.store (c := (.slice none 0 0)) x8 rfl trivial _
        replace q1 := q1.stored2 q1_ne_x8 KW
        replace q2 := q2.stored2 q2_ne_x8 KW
        replace o1 := o1.stored2 o1_ne_x8 KW
        replace o2 := o2.stored2 o2_ne_x8 KW
        revert hf hfd; refine lg2 KW ?_; intro hf hfd
        try (replace y0 := y0.kw KW)
        try (replace ev := ev.kw KW)
        try (replace evd := evd.kw KW)
        replace x2 := x2.fr gx8 2 (.slice Aevd nevd cevd)
        replace x4 := x4.fr gx8 2 (.slice Aevd nevd cevd)
        replace x6 := x6.fr gx8 2 (.slice Aevd nevd cevd)
        replace x8 : Bx 34 ((((((WC).setCell ⟨gx8, 0, none⟩ (.bool (Wd.ngb qv.num)))).setCell ⟨gx8, 1, none⟩ (.slice Aev nev cev))).setCell ⟨gx8, 2, none⟩ (.slice Aevd nevd cevd)) (gx8) [.bool (Wd.ngb qv.num), .slice Aev nev cev, .slice Aevd nevd cevd] := x8.set 2 (.slice Aevd nevd cevd)
        replace UP := UP.setCell (p := ⟨gx8, 2, none⟩) (by dsimp only; omega) (.slice Aevd nevd cevd)
        clear KW
        generalize ((((((WC).setCell ⟨gx8, 0, none⟩ (.bool (Wd.ngb qv.num)))).setCell ⟨gx8, 1, none⟩ (.slice Aev nev cev))).setCell ⟨gx8, 2, none⟩ (.slice Aevd nevd cevd)) = WD at *
        obtain ⟨WC, hWC⟩ : ∃ W, W = WD := ⟨_, rfl⟩
        subst hWC
        clear x2_0 x2_1
        obtain ⟨x2_0, x2_1⟩ := x2.c2
        clear x4_0 x4_1 x4_2
        obtain ⟨x4_0, x4_1, x4_2⟩ := x4.c3
        clear x6_0 x6_1
        obtain ⟨x6_0, x6_1⟩ := x6.c2
        refine hK.out _ _ (by exact ⟨UP, x6_0, x6_1⟩) (fun hHeld => ?_)
        clear hK K
        try simp only [gs, Act.put])
     | (have hK := hK8
        clear hK8
        (try clear hHeld)
        go_simp
        refine hK.out _ _ (by exact ⟨UP, x6_0, x6_1⟩) (fun hHeld => ?_)
        clear hK K
        try simp only [gs, Act.put])
     | refine wpAnyH_done (by decide +kernel) (NoPanic.normal ?_) _
     | fail
    all_goals try clear hHeld
    all_goals obtain ⟨x8_0, x8_1, x8_2⟩ := x8.c3
    all_goals
     go_wp2_with fail
     go_meet
     exact ⟨rfl, x2, x4, x6, q1, q2, o1, o2, hf, hfd, UP⟩
   case rest =>
    obtain ⟨rfl, x2, x4, x6, q1, q2, o1, o2, hf, hfd, UP⟩ := hcut
    clear x2_0 x2_1 x4_0 x4_1 x4_2 x6_0 x6_1
    obtain ⟨x2_0, x2_1⟩ := x2.c2
    obtain ⟨x4_0, x4_1, x4_2⟩ := x4.c3
    obtain ⟨x6_0, x6_1⟩ := x6.c2
    go_wp2_with fail
    revert x2 x4 x6 q1 q2 o1 o2 hf hfd UP x2_0 x2_1; refine lg12 (Up.refl wc).drew ?_; intro x2 x4 x6 q1 q2 o1 o2 hf hfd UP x2_0 x2_1; revert x4_0 x4_1 x4_2 x6_0 x6_1; refine lg5 (Up.refl wc).drew ?_; intro x4_0 x4_1 x4_2 x6_0 x6_1
    refine wp_region_noPanic ?_
    refine wp_region_held_drew (S := fun w' => Up w w' ∧ w'.cell? ⟨g2, 0, none⟩ = some (.slice A Q1.length c) ∧ w'.cell? ⟨g2, 1, none⟩ = some (.slice B Q2.length d) ∧ w'.cell? ⟨W51.heap.size, 0, none⟩ = some (.bool (Wd.ngb H2.num)) ∧ w'.cell? ⟨W51.heap.size, 1, none⟩ = some (.slice Ahf nhf chf) ∧ w'.cell? ⟨W51.heap.size, 2, none⟩ = some (.slice Ahfd nhfd chfd) ∧ w'.cell? ⟨g6, 0, none⟩ = some (.slice A' O1.length c') ∧ w'.cell? ⟨g6, 1, none⟩ = some (.slice B' O2.length d')) (by kernel_rfl) ?_ (fun hHeld => ?_)
    · with_reducible exact ⟨UP, x2_0, x2_1, x4_0, x4_1, x4_2, x6_0, x6_1⟩
    refine tk 0 ?_
    try simp only [gs, Act.put]
    refine tk 1 ?_
    try simp only [gs, Act.put]
    refine tk 2 ?_
    try simp only [gs, Act.put]
    refine tk 3 ?_
    try simp only [gs, Act.put]
    refine tk 4 ?_
    try simp only [gs, Act.put]
    refine tk 5 ?_
    try simp only [gs, Act.put]
    refine tk 6 ?_
    try simp only [gs, Act.put]
    refine tk 7 ?_
    try simp only [gs, Act.put]
    refine tk 8 ?_
    try simp only [gs, Act.put]
    refine tk 9 ?_
    try simp only [gs, Act.put]
    refine tk 10 ?_
    try simp only [gs, Act.put]
    refine rd 11 (fun K hK => ?_)
    go_simp
    (first
      | (go_at_call 76
         ((with_reducible refine (ratf_of (k := 4) ((qw_of hf hfd).fr LH) (by omega) (by omega) HR4).mono ?_))
         rintro e W51 ⟨V51, U51, rfl, lu, ld, u51⟩
         obtain ⟨Alu, clu, rfl⟩ := lu.form
         obtain ⟨Ald, cld, rfl⟩ := ld.form
         try simp only [List.length_cons, List.length_nil, Nat.zero_add] at ld
         revert x2 x4 x6 q1 q2 o1 o2 hf hfd UP x2_0 x2_1; refine lg12 u51 ?_; intro x2 x4 x6 q1 q2 o1 o2 hf hfd UP x2_0 x2_1; revert x4_0 x4_1 x4_2 x6_0 x6_1; refine lg5 u51 ?_; intro x4_0 x4_1 x4_2 x6_0 x6_1
         try (replace lu := lu.up u51)
         try (replace ld := ld.up u51)
         clear u51))
    try go_wp2_with fail
    try clear hHeld
    refine hK.out _ _ ?_ (fun hHeld => ?_)
    · with_reducible exact ⟨UP, x2_0, x2_1, x4_0, x4_1, x4_2, x6_0, x6_1⟩
    clear hK K
    try simp only [gs, Act.put]
    refine rd 12 (fun K hK => ?_)
    go_simp
    (first
      | (go_at_call 72
         ((with_reducible refine (ratf_same (k := 96) (m := 3) (m' := 1) q1.fs q2.fs EQ.out.1 EQ.out.2 (by omega) LQ.out (lu.fs.mono (by omega)) (ld.fs.mono (by omega)) l4 (by simp) (by omega) LP4.out (by omega) (by omega) (by omega) (by omega) (Lib.hid (Pq.pu_of CQ.out.nd)) (Lib.hid (Pq.pd_of CQ.out.nd)) (Lib.hid (Pq.pu_of Pq.one_ne)) (Lib.hid (Pq.pd_of Pq.one_ne)) (Lib.hid (Pq.w15_half HHT.out E1.out E2.out E4.out N1.out CQ.out))).mono ?_))
         rintro e W52 ⟨rfl, u52⟩
         revert x2 x4 x6 q1 q2 o1 o2 hf hfd UP x2_0 x2_1; refine lg12 u52 ?_; intro x2 x4 x6 q1 q2 o1 o2 hf hfd UP x2_0 x2_1; revert x4_0 x4_1 x4_2 x6_0 x6_1; refine lg5 u52 ?_; intro x4_0 x4_1 x4_2 x6_0 x6_1
         try (replace lu := lu.up u52)
         try (replace ld := ld.up u52)
         clear u52))
    try go_wp2_with fail
    try clear hHeld
    refine hK.out _ _ ?_ (fun hHeld => ?_)
    · with_reducible exact ⟨UP, x2_0, x2_1, x4_0, x4_1, x4_2, x6_0, x6_1⟩
    clear hK K
    try simp only [gs, Act.put]
    refine tk 13 ?_
    try simp only [gs, Act.put]
    refine tk 14 ?_
    try simp only [gs, Act.put]
    refine tk 15 ?_
    try simp only [gs, Act.put]
    refine rd 16 (fun K hK => ?_)
    go_simp
    (first
      | (go_at_call 71
         ((with_reducible refine (ratf_zero (k := 96) o1.fs o2.fs (by have := EO.out; omega) (by have := EO.out; omega) (by omega) (by omega) (Lib.hid (Pq.pu_of CO.out.nd)) (Lib.hid (Pq.pd_of CO.out.nd))).mono ?_))
         rintro e W53 ⟨rfl, u53⟩
         revert x2 x4 x6 q1 q2 o1 o2 hf hfd UP x2_0 x2_1; refine lg12 u53 ?_; intro x2 x4 x6 q1 q2 o1 o2 hf hfd UP x2_0 x2_1; revert x4_0 x4_1 x4_2 x6_0 x6_1; refine lg5 u53 ?_; intro x4_0 x4_1 x4_2 x6_0 x6_1
         try (replace lu := lu.up u53)
         try (replace ld := ld.up u53)
         clear u53
         rw [Pq.w15_zero E3.out N1.out CO.out]))
    try go_wp2_with fail
    try clear hHeld
    refine hK.out _ _ ?_ (fun hHeld => ?_)
    · with_reducible exact ⟨UP, x2_0, x2_1, x4_0, x4_1, x4_2, x6_0, x6_1⟩
    clear hK K
    try simp only [gs, Act.put]
    refine tk 17 ?_
    try simp only [gs, Act.put]
    refine tk 18 ?_
    try simp only [gs, Act.put]
    refine rd 19 (fun K hK => ?_)
    go_simp
    skip
    try go_wp2_with fail
    try clear hHeld
    refine hK.out _ _ ?_ (fun hHeld => ?_)
    · with_reducible exact ⟨UP, x2_0, x2_1, x4_0, x4_1, x4_2, x6_0, x6_1⟩
    clear hK K
    try simp only [gs, Act.put]
    refine wpAnyH_done (by kernel_rfl) ?_ _
    refine NoPanic.normal ?_
    go_wp2
    go_ret
    exact ⟨rfl, UP⟩
end Go.Proofs.YtmmcffceeahemaaGreat
