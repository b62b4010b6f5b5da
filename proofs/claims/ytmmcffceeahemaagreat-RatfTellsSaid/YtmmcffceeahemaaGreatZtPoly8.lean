/-
  Layer 14: products.
-/
import Derived.Test.YtmmcffceeahemaaGreatZtPoly7
import Derived.Test.YtmmcffceeahemaaGreatZtShort
set_option linter.unusedVariables false
set_option linter.unusedSimpArgs false
namespace Go.Proofs.YtmmcffceeahemaaGreat
open Go.RowKit
/-- A row of the call's own, of fractions in any spelling. -/
def ORow (k : Nat) (w0 w : World) (v : Value) (qs : List Rat) : Prop := OwnQ (Frk k) 34 w0.heap.size w v qs
theorem ORow.up {k : Nat} {w0 w w' : World} {v : Value} {qs : List Rat} (h : ORow k w0 w v qs) (hu : Up w w') : ORow k w0 w' v qs := OwnQ.up (kp_fr k) h hu
instance ORow.lup {k : Nat} {w0 w w' : World} {v : Value} {qs : List Rat} : Lu (Up w w') (ORow k w0 w v qs) (ORow k w0 w' v qs) := luM fun u h => h.up u
theorem ORow.form {k : Nat} {w0 w : World} {v : Value} {qs : List Rat} (h : ORow k w0 w v qs) : ∃ A c, v = .slice A qs.length c := OwnQ.form h
theorem ORow.fs {k : Nat} {w0 w : World} {v : Value} {qs : List Rat} (h : ORow k w0 w v qs) : FSq k w v qs := OwnQ.sq h
theorem ORow.at_ {k : Nat} {w0 w : World} {A : Option Addr} {n c : Nat} {qs : List Rat} (h : ORow k w0 w (.slice A n c) qs) {j : Nat} (hj : j < qs.length) :
 ∃ g s B m f D n' f', A = some ⟨g, 0, none⟩ ∧ w0.heap.size ≤ g ∧ g < w.heap.size ∧ w.cell? ⟨g, j * 3, none⟩ = some (.bool s) ∧ w.cell? ⟨g, j * 3 + 1, none⟩ = some (.slice B m f) ∧ w.cell? ⟨g, j * 3 + 2, none⟩ = some (.slice D n' f') ∧ Fr w (.agg #[.bool s, .slice B m f, .slice D n' f']) qs[j] k ∧ (∀ i, w.frozen? ⟨g, i, none⟩ = false) := OwnQ.at_ (kp_fr k) h hj
theorem ORow.place {k : Nat} {w0 w : World} {A : Option Addr} {n c : Nat} {qs : List Rat} (h : ORow k w0 w (.slice A n c) qs) (hj : 0 < qs.length) : ∃ g, A = some ⟨g, 0, none⟩ ∧ w0.heap.size ≤ g ∧ g < w.heap.size := by
 obtain ⟨g, _, _, _, _, _, _, _, h1, h2, h3, _⟩ := h.at_ hj
 exact ⟨g, h1, h2, h3⟩
theorem ORow.store {K : Nat} {w0 w : World} {g n c : Nat} {qs : List Rat} (h : ORow K w0 w (.slice (some ⟨g, 0, none⟩) n c) qs) (hu : Up w0 w) {k : Nat} (hk : k < qs.length) {s : Bool} {u d : Value} {q : Rat} (hq : Fr w (.agg #[.bool s, u, d]) q K) :
 ORow K w0 (((w.setCell ⟨g, k * 3, none⟩ (.bool s)).setCell ⟨g, k * 3 + 1, none⟩ u).setCell ⟨g, k * 3 + 2, none⟩ d) (.slice (some ⟨g, 0, none⟩) n c) (qs.set k q) ∧ Kw w (((w.setCell ⟨g, k * 3, none⟩ (.bool s)).setCell ⟨g, k * 3 + 1, none⟩ u).setCell ⟨g, k * 3 + 2, none⟩ d) ∧
  Up w0 (((w.setCell ⟨g, k * 3, none⟩ (.bool s)).setCell ⟨g, k * 3 + 1, none⟩ u).setCell ⟨g, k * 3 + 2, none⟩ d) := by
 obtain ⟨h1, h2, _, h4⟩ := OwnQ.store (kp_fr K) h hu hk hq
 exact ⟨h1, h2, h4⟩
theorem poly_long3 {k n : Nat} {w : World} {N : Int} (hN : N = (n : Int)) (hn : n ≤ 100000000) (hka : 2 ≤ k) : Calls Tryz.prog 113 #[.slice none 0 0, .int .i64 N] w fun e w' => ∃ V, e = .returned V ∧ ORow k w w' V (Pq.pad [] n n) ∧ Up w w' := by
 subst hN
 exact poly_long (ka := k) (qs := []) (Sq.nil _ _) (by simp) hn hka
set_option maxRecDepth 100000 in
set_option maxHeartbeats 6400000 in
theorem poly_mul {v u : Value} {ps qs : List Rat} {ka kb K : Nat} {w : World} (h : FSq ka w v ps) (h2 : FSq kb w u qs) (hl : ps.length ≤ 10000) (hl2 : qs.length ≤ 10000) (HK : Hid (∀ i r, i < ps.length → ∀ x ∈ Pq.mrow (ps.getD i 0) qs i r (Pq.mall ps qs i), Wd.Lq x K)) (hka : ka ≤ 4000000) (hkb : kb ≤ 4000000) (hk2 : 2 ≤ K) (hk : K ≤ 4000000) :
 Calls Tryz.prog 39 #[v, u] w (RetP (K + 2) (Pq.nm (Pq.mul ps qs)) w) := by
 have LA := Lib.hid h.lq
 have LB := Lib.hid h2.lq
 obtain ⟨A, cp, rfl⟩ := h.form
 obtain ⟨B, cq, rfl⟩ := h2.form
 have H1 := Lib.hid h
 have H2 := Lib.hid h2
 have HNM := Lib.hid (Pq.nm_mall ps qs)
 have HLEN := Lib.hid (Pq.mall_len ps qs)
 clear h h2
 go_enter Tryz.func39, Tryz.ntmps39
 go_wp2_with fail
 refine (poly_long3 (k := K) (n := ps.length + qs.length) (by omega) (by omega) hk2).mono ?_
 rintro e w1 ⟨V1, rfl, R0, u1⟩
 have R : ORow K w w1 V1 (Pq.mall ps qs 0) := by
  have e : Pq.pad [] (ps.length + qs.length) (ps.length + qs.length) = Pq.mall ps qs 0 := by
   apply List.ext_getElem (by simp [Pq.pad, Pq.mall])
   intro i h1 h2
   simp [Pq.pad, Pq.mall]
  rw [← e]
  exact R0
 clear R0
 obtain ⟨A1, cv1, rfl⟩ := R.form
 rw [HLEN.out] at R ⊢
 obtain ⟨N, HN⟩ : ∃ N, Hid (ps.length + qs.length = N) := ⟨_, Lib.hid rfl⟩
 rw [HN.out] at R ⊢
 have HR := Lib.hid R
 have HU1 := Lib.hid u1
 clear R u1
 go_wp2_with fail
 go_loopw [6, 7, 8, 9, 18] (fun _ _ _ _ s18 wr => ∃ i : Nat, s18 = .int .i64 i ∧ i ≤ ps.length ∧ ORow K w wr (.slice A1 N cv1) (Pq.mall ps qs i) ∧ Up w wr) (fun _ _ _ _ s18 _ => ps.length - (intOf s18).toNat)
 case atStart => exact ⟨0, rfl, Nat.zero_le _, HR.out, HU1.out⟩
 case round =>
  obtain ⟨i, rfl, hi, MR, UP⟩ := hrel
  clear HR HU1
  by_cases hlt : i < ps.length
  · obtain ⟨b, o, s, B0, m0, f, D, n', f', e0, hb, g1, g2, g3, FX⟩ := (H1.out.up UP).sq.at_ (kp_fr ka) hlt
    subst e0
    have HX : Hid (ps.getD i 0 = ps[i]) := Lib.hid (Pq.getD_at hlt)
    have HKI : Hid (∀ r, ∀ x ∈ Pq.mrow ps[i] qs i r (Pq.mall ps qs i), Wd.Lq x K) := Lib.hid (by rw [← HX.out]; exact fun r => HK.out i r hlt)
    have HNX : Hid (Pq.mall ps qs (i + 1) = Pq.mrow ps[i] qs i qs.length (Pq.mall ps qs i)) := Lib.hid (by rw [← HX.out]; rfl)
    have LX := Lib.hid (LA.out ps[i] (List.getElem_mem hlt))
    generalize ps[i] = x at *
    have FX : Fr wr (.agg #[.bool s, .slice B0 m0 f, .slice D n' f']) x ka := FX
    have k1 : (i : Int) < (ps.length : Int) := by omega
    have k0 : (0 : Int) ≤ (i : Int) := by omega
    have kk : ((i : Int)).toNat = i := by omega
    have UW := UP
    obtain ⟨gg, e8, hg0, hgw⟩ := MR.place (by rw [HLEN.out]; omega)
    subst e8
    go_wp2_with fail
    have a1 := Bx.new 34 wr [.bool s, .slice B0 m0 f, .slice D n' f']
    have nu := ((Up.refl wr).alloc (.cells #[.bool s, .slice B0 m0 f, .slice D n' f'] 34))
    refine li3 nu FX MR UP ?_; clear FX MR UP nu; intro FX MR UP
    generalize (wr.alloc (.cells #[.bool s, .slice B0 m0 f, .slice D n' f'] 34)) = W51 at *
    obtain ⟨a1_0, a1_1, a1_2⟩ := a1.c3
    ((with_reducible refine (frac_sign FX (by omega)).mono ?_))
    rintro e W52 ⟨rfl, u52⟩
    revert a1 FX MR UP a1_0 a1_1 a1_2; revert u52; refine lh7 ?_; intro a1 FX MR UP a1_0 a1_1 a1_2
    clear g1 g2 g3 hb
    by_cases hx : x = 0
    · have hs : ((Wd.sgn x.num : Int) == 0) = true := by rw [sgn_eq_zero]; exact decide_eq_true hx
      have HM0 : Hid (Pq.mall ps qs (i + 1) = Pq.mall ps qs i) := Lib.hid (by rw [HNX.out, hx, Pq.mrow_zero])
      clear hx
      go_wp2_with fail
      go_roundw
      case rel => exact ⟨i + 1, by first | rfl | go_num, by omega, by rw [HM0.out]; exact MR, UP⟩
      case measure => simp [intOf]; omega
    · have hs : ((Wd.sgn x.num : Int) == 0) = false := by rw [sgn_eq_zero]; exact decide_eq_false hx
      clear hx
      have HA1 := Lib.hid a1
      have HFX := Lib.hid FX
      have HMR := Lib.hid MR
      have HUP := Lib.hid UP
      clear a1 FX MR UP a1_0 a1_1 a1_2
      go_wp2_with fail
      have hg1 := UW.size
      generalize wr.heap.size = g1 at *
      clear UW k1 k0 kk hs
      go_loopw [8, 9, 28] (fun _ _ s28 wr => ∃ j : Nat, s28 = .int .i64 j ∧ j ≤ qs.length ∧ ORow K w wr (.slice (some ⟨gg, 0, none⟩) N cv1) (Pq.mrow x qs i j (Pq.mall ps qs i)) ∧ Bx 34 wr g1 [.bool s, .slice B0 m0 f, .slice D n' f'] ∧ Fr wr (.agg #[.bool s, .slice B0 m0 f, .slice D n' f']) x ka ∧ Up w wr) (fun _ _ s28 _ => qs.length - (intOf s28).toNat)
      case atStart => exact ⟨0, rfl, Nat.zero_le _, HMR.out, HA1.out, HFX.out, HUP.out⟩
      case round =>
       clear HA1 HFX HMR HUP
       obtain ⟨j, rfl, hj, MR, a1, FX, UP⟩ := hrel
       by_cases hlt2 : j < qs.length
       · obtain ⟨b2, o2, s2, B2, m2, f2, D2, n2', f2', e0, hb2, g1', g2', g3', FY⟩ := (H2.out.up UP).sq.at_ (kp_fr kb) hlt2
         subst e0
         obtain ⟨t, HT⟩ : ∃ t, Hid (i + j = t) := ⟨_, Lib.hid rfl⟩
         have htN : t < N := by have := HT.out; have := HN.out; omega
         have HM0 := Lib.hid (HKI.out (j + 1))
         have HP : Hid (t < (Pq.mrow x qs i j (Pq.mall ps qs i)).length) := Lib.hid (by rw [Pq.mrow_len, HLEN.out, HN.out]; exact htN)
         have HQJ : Hid ((Pq.mrow x qs i j (Pq.mall ps qs i)).getD t 0 = (Pq.mrow x qs i j (Pq.mall ps qs i))[t]'HP.out) := Lib.hid (Pq.getD_at HP.out)
         have HS : Hid ((Pq.mrow x qs i j (Pq.mall ps qs i)).set t ((Pq.mrow x qs i j (Pq.mall ps qs i))[t]'HP.out + x * qs[j]) = Pq.mrow x qs i (j + 1) (Pq.mall ps qs i)) := Lib.hid (by rw [← HQJ.out, ← Pq.getD_at hlt2, ← HT.out]; rfl)
         have HZ : Hid (Wd.Lq ((Pq.mrow x qs i j (Pq.mall ps qs i))[t]'HP.out + x * qs[j]) K) := Lib.hid (HM0.out _ (by rw [← HS.out]; exact List.mem_of_getElem? (i := t) (by rw [List.getElem?_set_self HP.out])))
         have HOL : Hid (Wd.Lq ((Pq.mrow x qs i j (Pq.mall ps qs i))[t]'HP.out) K) := Lib.hid (HKI.out j _ (List.getElem_mem _))
         have LY := Lib.hid (LB.out qs[j] (List.getElem_mem hlt2))
         clear HM0 HQJ
         generalize HMV : Pq.mrow x qs i j (Pq.mall ps qs i) = M at *
         generalize qs[j] = y0 at *
         have FY : Fr wr (.agg #[.bool s2, .slice B2 m2 f2, .slice D2 n2' f2']) y0 kb := FY
         clear HMV
         obtain ⟨z0, HOV⟩ : ∃ z0, Hid (M[t]'HP.out = z0) := ⟨_, Lib.hid rfl⟩
         rw [HOV.out] at HS HZ HOL
         obtain ⟨y, HPR⟩ : ∃ y, Hid (x * y0 = y) := ⟨_, Lib.hid rfl⟩
         have LPR : Wd.Lq y (ka + kb) := by rw [← HPR.out]; exact LX.out.mul LY.out
         rw [HPR.out] at HS HZ
         obtain ⟨Z, HSU⟩ : ∃ Z, Hid (z0 + y = Z) := ⟨_, Lib.hid rfl⟩
         rw [HSU.out] at HS HZ
         have k1 : (j : Int) < (qs.length : Int) := by omega
         have k0 : (0 : Int) ≤ (j : Int) := by omega
         have kk : ((j : Int)).toNat = j := by omega
         have k2 : IntKind.i64.wrap ((i : Int) + (j : Int)) = (t : Int) := by have := HT.out; rw [IntKind.wrap_i64]; omega
         have k3 : (t : Int) < (N : Int) := by omega
         have k4 : (0 : Int) ≤ (t : Int) := by omega
         have k5 : ((t : Int)).toNat = t := by omega
         have UW := UP
         obtain ⟨a1_0, a1_1, a1_2⟩ := a1.c3
         have a1_0a := cA a1_0
         have a1_1a := cA a1_1
         have a1_2a := cA a1_2
         go_wp2_with fail
         clear a1_0a a1_1a a1_2a
         have a2 := Bx.new 34 wr [.bool s2, .slice B2 m2 f2, .slice D2 n2' f2']
         have a1_lt_a2 := a1.lt
         have nu := ((Up.refl wr).alloc (.cells #[.bool s2, .slice B2 m2 f2, .slice D2 n2' f2'] 34))
         refine li5 nu FX FY MR a1 UP ?_; clear FX FY MR a1 UP nu; intro FX FY MR a1 UP
         generalize (wr.alloc (.cells #[.bool s2, .slice B2 m2 f2, .slice D2 n2' f2'] 34)) = W51 at *
         clear a1_0 a1_1 a1_2
         obtain ⟨a1_0, a1_1, a1_2⟩ := a1.c3
         obtain ⟨a2_0, a2_1, a2_2⟩ := a2.c3
         clear g1' g2' g3' hb2
         clear a1_0 a1_1 a1_2 a2_0 a2_1 a2_2
         revert a2 FX FY MR a1 UP; refine lg6 (Up.refl W51).drew ?_; intro a2 FX FY MR a1 UP
         have hga := UW.size
         refine wp_region_noPanic ?_
         refine wp_region_held_drew (S := fun w' => (w'.cell? ⟨g1, 0, none⟩ = some (.bool s) ∧ w'.cell? ⟨g1, 1, none⟩ = some (.slice B0 m0 f) ∧ w'.cell? ⟨g1, 2, none⟩ = some (.slice D n' f')) ∧ w'.cell? ⟨wr.heap.size, 0, none⟩ = some (.bool s2) ∧ w'.cell? ⟨wr.heap.size, 1, none⟩ = some (.slice B2 m2 f2) ∧ w'.cell? ⟨wr.heap.size, 2, none⟩ = some (.slice D2 n2' f2')) (by kernel_rfl) (by exact ⟨a1.c3, a2.c3⟩) (fun hHeld => ?_)
         generalize W51.drew = W0 at *
         refine tk 0 ?_
         try simp only [gs, Act.put]
         refine tk 1 ?_
         try simp only [gs, Act.put]
         refine tk 2 ?_
         try simp only [gs, Act.put]
         refine tk 3 ?_
         try simp only [gs, Act.put]
         refine tk 4 ?_
         try simp only [gs, Act.put]
         refine tk 5 ?_
         try simp only [gs, Act.put]
         refine tk 6 ?_
         try simp only [gs, Act.put]
         refine tk 7 ?_
         try simp only [gs, Act.put]
         refine tk 8 ?_
         try simp only [gs, Act.put]
         refine tk 10 ?_
         try simp only [gs, Act.put]
         refine tk 11 ?_
         try simp only [gs, Act.put]
         refine wpAnyH_ready (rs := [9, 12]) (by decide +kernel) (by simp) ?_
         refine AllReadyH.cons rfl (fun K hK => ?_) ?_
         · skip
           clear hHeld
           obtain ⟨_, s9, B9, m9, f9, D9, n9, f9', e9, _, _, o1, o2, o3, FO, _⟩ := MR.at_ HP.out
           cases e9
           rw [HOV.out] at FO
           go_simp
           clear o1 o2 o3
           refine hK.out _ _ (by exact ⟨a1.c3, a2.c3⟩) (fun hHeld => ?_)
           clear hK K
           try simp only [gs, Act.put]
           refine rd 12 (fun K hK => ?_)
           clear hHeld
           go_simp
           go_at_call 110
           refine (frac_mul FX FY (by omega) (by omega)).mono ?_
           rintro e W2 ⟨V2, rfl, y1, u2⟩
           refine li4 u2 MR a1 a2 FX ?_; clear MR a1 a2 FX; intro MR a1 a2 FX
           try replace FO := FO.up u2
           replace UP := UP.trans u2
           clear u2 FY
           rw [HPR.out] at y1
           obtain ⟨Xy, Yy, rfl, y1, y1d⟩ := y1
           obtain ⟨Ay, ny, cy, rfl⟩ := y1.shape
           obtain ⟨Ayd, nyd, cyd, rfl⟩ := y1d.shape
           try go_wp2_with fail
           refine hK.out _ _ (by exact ⟨a1.c3, a2.c3⟩) (fun hHeld => ?_)
           clear hK K
           try simp only [gs, Act.put]
           refine rd 13 (fun K hK => ?_)
           clear hHeld
           go_simp
           go_at_call 109
           refine (frac_add FO (Qw.fr ⟨_, _, rfl, y1, y1d⟩ LPR) (by omega) (by omega)).mono ?_
           rintro e W3 ⟨V3, rfl, z, u3⟩
           revert MR a1 a2 FX UP; refine lg5 u3 ?_; intro MR a1 a2 FX UP
           clear u3 FO y1 y1d
           rw [HSU.out] at z
           obtain ⟨Xz, Yz, rfl, z, zd⟩ := z
           obtain ⟨Az, nz, cz, rfl⟩ := z.shape
           obtain ⟨Azd, nzd, czd, rfl⟩ := zd.shape
           try go_wp2_with fail
           refine hK.out _ _ (by exact ⟨a1.c3, a2.c3⟩) (fun hHeld => ?_)
           clear hK K
           try simp only [gs, Act.put]
           refine tk 14 ?_
           try simp only [gs, Act.put]
           obtain ⟨_, s9', B9', m9', f9'', D9', n9', f9x, e9, _, _, c1, c2, c3, _, fr⟩ := MR.at_ HP.out
           cases e9
           have f1 := fr (t * 3)
           have f2 := fr (t * 3 + 1)
           have f3 := fr (t * 3 + 2)
           clear fr
           obtain ⟨q1, q3, q4⟩ := MR.store UP HP.out (Qw.fr ⟨_, _, rfl, z, zd⟩ HZ.out)
           rw [HS.out] at q1
           have Q1 := Lib.hid q1
           have Q4 := Lib.hid q4
           have QX := Lib.hid (FX.kw q3)
           have QA := Lib.hid (((a1.far (p := ⟨gg, t * 3, none⟩) (by dsimp only; omega) (.bool (Wd.ngb Z.num))).far (p := ⟨gg, t * 3 + 1, none⟩) (by dsimp only; omega) (.slice Az nz cz)).far (p := ⟨gg, t * 3 + 2, none⟩) (by dsimp only; omega) (.slice Azd nzd czd))
           have QB := Lib.hid (((a2.far (p := ⟨gg, t * 3, none⟩) (by dsimp only; omega) (.bool (Wd.ngb Z.num))).far (p := ⟨gg, t * 3 + 1, none⟩) (by dsimp only; omega) (.slice Az nz cz)).far (p := ⟨gg, t * 3 + 2, none⟩) (by dsimp only; omega) (.slice Azd nzd czd))
           clear q1 q3 q4
           refine rd 15 (fun K hK => ?_)
           clear hHeld
           go_simp
           refine hK.out _ _ (by exact ⟨QA.out.c3, QB.out.c3⟩) (fun hHeld => ?_)
           clear hK K
           try simp only [gs, Act.put]
           refine wpAnyH_done (by decide +kernel) (NoPanic.normal ?_) _
           clear hHeld c1 c2 c3 f1 f2 f3
           go_wp2_with fail
           go_roundw
           case rel => exact ⟨j + 1, by first | rfl | go_num, by omega, Q1.out, QA.out, QX.out, Q4.out⟩
           case measure => simp [intOf]; omega
         refine AllReadyH.cons rfl (fun K hK => ?_) AllReadyH.nil
         clear hHeld
         go_simp
         go_at_call 110
         refine (frac_mul FX FY (by omega) (by omega)).mono ?_
         rintro e W2 ⟨V2, rfl, y1, u2⟩
         refine li4 u2 MR a1 a2 FX ?_; clear MR a1 a2 FX; intro MR a1 a2 FX
         try replace FO := FO.up u2
         replace UP := UP.trans u2
         clear u2 FY
         rw [HPR.out] at y1
         obtain ⟨Xy, Yy, rfl, y1, y1d⟩ := y1
         obtain ⟨Ay, ny, cy, rfl⟩ := y1.shape
         obtain ⟨Ayd, nyd, cyd, rfl⟩ := y1d.shape
         try go_wp2_with fail
         refine hK.out _ _ (by exact ⟨a1.c3, a2.c3⟩) (fun hHeld => ?_)
         clear hK K
         try simp only [gs, Act.put]
         refine rd 9 (fun K hK => ?_)
         clear hHeld
         obtain ⟨_, s9, B9, m9, f9, D9, n9, f9', e9, _, _, o1, o2, o3, FO, _⟩ := MR.at_ HP.out
         cases e9
         rw [HOV.out] at FO
         go_simp
         clear o1 o2 o3
         refine hK.out _ _ (by exact ⟨a1.c3, a2.c3⟩) (fun hHeld => ?_)
         clear hK K
         try simp only [gs, Act.put]
         refine rd 13 (fun K hK => ?_)
         clear hHeld
         go_simp
         go_at_call 109
         refine (frac_add FO (Qw.fr ⟨_, _, rfl, y1, y1d⟩ LPR) (by omega) (by omega)).mono ?_
         rintro e W3 ⟨V3, rfl, z, u3⟩
         refine li5 u3 MR a1 a2 FX UP ?_; clear MR a1 a2 FX UP; intro MR a1 a2 FX UP
         clear u3 FO y1 y1d
         rw [HSU.out] at z
         obtain ⟨Xz, Yz, rfl, z, zd⟩ := z
         obtain ⟨Az, nz, cz, rfl⟩ := z.shape
         obtain ⟨Azd, nzd, czd, rfl⟩ := zd.shape
         try go_wp2_with fail
         refine hK.out _ _ (by exact ⟨a1.c3, a2.c3⟩) (fun hHeld => ?_)
         clear hK K
         try simp only [gs, Act.put]
         refine tk 14 ?_
         try simp only [gs, Act.put]
         obtain ⟨_, s9', B9', m9', f9'', D9', n9', f9x, e9, _, _, c1, c2, c3, _, fr⟩ := MR.at_ HP.out
         cases e9
         have f1 := fr (t * 3)
         have f2 := fr (t * 3 + 1)
         have f3 := fr (t * 3 + 2)
         clear fr
         obtain ⟨q1, q3, q4⟩ := MR.store UP HP.out (Qw.fr ⟨_, _, rfl, z, zd⟩ HZ.out)
         rw [HS.out] at q1
         have Q1 := Lib.hid q1
         have Q4 := Lib.hid q4
         have QX := Lib.hid (FX.kw q3)
         have QA := Lib.hid (((a1.far (p := ⟨gg, t * 3, none⟩) (by dsimp only; omega) (.bool (Wd.ngb Z.num))).far (p := ⟨gg, t * 3 + 1, none⟩) (by dsimp only; omega) (.slice Az nz cz)).far (p := ⟨gg, t * 3 + 2, none⟩) (by dsimp only; omega) (.slice Azd nzd czd))
         have QB := Lib.hid (((a2.far (p := ⟨gg, t * 3, none⟩) (by dsimp only; omega) (.bool (Wd.ngb Z.num))).far (p := ⟨gg, t * 3 + 1, none⟩) (by dsimp only; omega) (.slice Az nz cz)).far (p := ⟨gg, t * 3 + 2, none⟩) (by dsimp only; omega) (.slice Azd nzd czd))
         clear q1 q3 q4
         refine rd 15 (fun K hK => ?_)
         clear hHeld
         go_simp
         refine hK.out _ _ (by exact ⟨QA.out.c3, QB.out.c3⟩) (fun hHeld => ?_)
         clear hK K
         try simp only [gs, Act.put]
         refine wpAnyH_done (by decide +kernel) (NoPanic.normal ?_) _
         clear hHeld c1 c2 c3 f1 f2 f3
         go_wp2_with fail
         go_roundw
         case rel => exact ⟨j + 1, by first | rfl | go_num, by omega, Q1.out, QA.out, QX.out, Q4.out⟩
         case measure => simp [intOf]; omega
       · obtain rfl : j = qs.length := by omega
         have k1 : ¬ ((qs.length : Int) < (qs.length : Int)) := by omega
         go_wp2_with fail
         go_roundw
         case rel => exact ⟨i + 1, by first | rfl | go_num, by omega, by rw [HNX.out]; exact MR, UP⟩
         case measure => simp [intOf]; omega
  · obtain rfl : i = ps.length := by omega
    have k1 : ¬ ((ps.length : Int) < (ps.length : Int)) := by omega
    have MS := Lib.hid MR.fs
    have HL9 : Hid ((Pq.mall ps qs ps.length).length ≤ 100000000) := Lib.hid (by rw [HLEN.out]; omega)
    have HUP := Lib.hid UP
    clear MR UP
    go_wp2_with fail
    have e9 : (Pq.mall ps qs ps.length).length = N := by rw [HLEN.out, HN.out]
    refine (poly_norm (qs := Pq.mall ps qs ps.length) MS.out.sq HL9.out (by omega)).mono ?_
    rintro e W9 ⟨V9, rfl, R9, u9⟩
    rw [HNM.out] at R9
    go_wp2
    go_ret
    exact ⟨_, rfl, R9.weaken HUP.out, HUP.out.trans u9⟩
end Go.Proofs.YtmmcffceeahemaaGreat
