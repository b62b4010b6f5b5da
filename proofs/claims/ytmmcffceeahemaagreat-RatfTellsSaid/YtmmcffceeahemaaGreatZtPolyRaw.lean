/-
  Layer 14: the common divisor.
  Layer 14: products and sums, told with their sizes; rows that are spelled out.
  What comes in, read: rows of fractions, rows of those, pairs of numbers.
  Rows as they are spelled; lengths of products, quotients and rests.
-/
import Derived.Test.YtmmcffceeahemaaGreatZtPoly9
import Derived.Test.YtmmcffceeahemaaGreatZtPolyPlain
import Derived.Test.YtmmcffceeahemaaGreatZtShort
import Derived.Test.YtmmcffceeahemaaGreatZtPoly4
import Derived.Test.YtmmcffceeahemaaGreatZtSeqLaw
set_option linter.unusedVariables false
set_option linter.unusedSimpArgs false
namespace Go.Proofs.YtmmcffceeahemaaGreat
open Go.RowKit
set_option maxRecDepth 100000 in
set_option maxHeartbeats 6400000 in
theorem poly_monic {v : Value} {ps : List Rat} {j k : Nat} {w : World} (h : FSq k w v ps) (hl : ps.length ≤ 10000) (ht : Pq.Tr ps) (LP : Pq.Lp ps j) (hk : k ≤ 3900000) : Calls Tryz.prog 118 #[v] w (RetP j (Pq.mo ps) w) := by
 have HLM := Lib.hid (LP.mo ht).lq
 obtain ⟨A, cp, rfl⟩ := h.form
 by_cases h0 : ps = []
 · subst h0
   have e0 : ([] : List Rat).length = 0 := rfl
   go_enter Tryz.func118, Tryz.ntmps118
   go_wp2
   go_ret
   exact ⟨_, rfl, OwnQ.nil _ _ _ _, Up.refl w⟩
 have hl1 : 1 ≤ ps.length := List.length_pos_iff.2 h0
 obtain ⟨t, HT⟩ : ∃ t, Hid (ps.length = t + 1) := ⟨ps.length - 1, Lib.hid (by omega)⟩
 have HP : Hid (t < ps.length) := Lib.hid (by have := HT.out; omega)
 have HNM : Hid (Pq.nm (Pq.sc (1 / ps[t]'HP.out) ps) = Pq.mo ps) := Lib.hid (by
  rw [← Pq.nm_mo ht, show ps.length - 1 = t by have := HT.out; omega, Pq.getD_at HP.out])
 obtain ⟨b, oo, s, B, m0, f, D, n', f', e0, hb, g1, g2, g3, FX⟩ := h.sq.at_ (kp_fr k) HP.out
 subst e0
 have LX := h.lq _ (List.getElem_mem HP.out)
 generalize ps[t]'HP.out = x at *
 have FX : Fr w (.agg #[.bool s, .slice B m0 f, .slice D n' f']) x k := FX
 have HOLD : Hid (∀ w', Up w w' → w'.cell? ⟨b, oo + t * 3, none⟩ = some (.bool s) ∧ w'.cell? ⟨b, oo + t * 3 + 1, none⟩ = some (.slice B m0 f) ∧ w'.cell? ⟨b, oo + t * 3 + 2, none⟩ = some (.slice D n' f')) := Lib.hid (fun w' hu => ⟨hu.keeps g1, hu.keeps g2, hu.keeps g3⟩)
 clear g1 g2 g3 h0
 have HH := Lib.hid h
 clear h
 have k3 : IntKind.i64.wrap ((ps.length : Int) - 1) = (t : Int) := by have := HT.out; rw [IntKind.wrap_i64]; omega
 have k5 : (t : Int) < (ps.length : Int) := by have := HP.out; omega
 have hne : ((ps.length : Int) == 0) = false := beq_false_of_ne (by omega)
 obtain ⟨P0, HP0⟩ : ∃ P, Hid (((1 : Int) : Rat) = P) := ⟨_, Lib.hid rfl⟩
 have LO : Wd.Lq P0 2 := by rw [← HP0.out]; exact lq_int (by omega)
 obtain ⟨c, HC⟩ : ∃ c, Hid (P0 / x = c) := ⟨_, Lib.hid rfl⟩
 have LC : Wd.Lq c (2 + k) := by rw [← HC.out]; exact LO.div LX
 have HX1 : Hid (1 / x = c) := Lib.hid (by rw [← HC.out, ← HP0.out]; rfl)
 rw [HX1.out] at HNM
 have UP : Up w w := Up.refl w
 go_enter Tryz.func118, Tryz.ntmps118
 go_wp2_with fail
 go_wp2_with fail
 revert FX UP
 refine lg2 (Up.refl w).drew ?_
 intro FX UP
 refine wp_region_noPanic ?_
 refine wp_region_held_drew (S := fun w' => Up w w' ∧ (w'.cell? ⟨b, oo + t * 3, none⟩ = some (.bool s) ∧ w'.cell? ⟨b, oo + t * 3 + 1, none⟩ = some (.slice B m0 f) ∧ w'.cell? ⟨b, oo + t * 3 + 2, none⟩ = some (.slice D n' f'))) (by kernel_rfl) (by exact ⟨UP, HOLD.out _ UP⟩) (fun hHeld => ?_)
 clear hHeld
 generalize w.drew = WC at *
 have hHeld : Up w WC ∧ (WC.cell? ⟨b, oo + t * 3, none⟩ = some (.bool s) ∧ WC.cell? ⟨b, oo + t * 3 + 1, none⟩ = some (.slice B m0 f) ∧ WC.cell? ⟨b, oo + t * 3 + 2, none⟩ = some (.slice D n' f')) := by exact ⟨UP, HOLD.out _ UP⟩
 refine tk 1 ?_
 try simp only [gs, Act.put]
 refine tk 2 ?_
 try simp only [gs, Act.put]
 refine tk 3 ?_
 try simp only [gs, Act.put]
 refine tk 4 ?_
 try simp only [gs, Act.put]
 refine tk 5 ?_
 try simp only [gs, Act.put]
 refine tk 6 ?_
 try simp only [gs, Act.put]
 repeat' first
  | (refine tk 8 ?_
     try simp only [gs, Act.put])
  | (refine tk 9 ?_
     try simp only [gs, Act.put])
  | (refine tk 10 ?_
     try simp only [gs, Act.put])
  | refine wpAnyH_ready (rs := [0, 11]) (by decide +kernel) (by simp) ?_
  | refine wpAnyH_ready (rs := [0]) (by decide +kernel) (by simp) ?_
  | refine wpAnyH_ready (rs := [7, 11]) (by decide +kernel) (by simp) ?_
  | refine wpAnyH_ready (rs := [7]) (by decide +kernel) (by simp) ?_
  | refine wpAnyH_ready (rs := [11]) (by decide +kernel) (by simp) ?_
  | refine wpAnyH_ready (rs := [12]) (by decide +kernel) (by simp) ?_
  | refine wpAnyH_ready (rs := [13]) (by decide +kernel) (by simp) ?_
  | refine AllReadyH.cons (i := 0) rfl (fun K hK0 => ?_) ?_
  | refine AllReadyH.cons (i := 7) rfl (fun K hK7 => ?_) ?_
  | refine AllReadyH.cons (i := 11) rfl (fun K hK11 => ?_) ?_
  | refine AllReadyH.cons (i := 12) rfl (fun K hK12 => ?_) ?_
  | refine AllReadyH.cons (i := 13) rfl (fun K hK13 => ?_) ?_
  | exact AllReadyH.nil
  | (have hK := hK0
     clear hK0
     (try clear hHeld)
     go_simp
     go_at_call 90
     ((with_reducible refine (frac_of (n := 1) (by omega) _).mono ?_))
     rintro e WD ⟨V0, rfl, o, uu⟩
     refine li2 uu FX UP ?_; clear FX UP; intro FX UP
     try (replace y := y.up uu)
     try (replace od := od.up uu)
     try (replace yd := yd.up uu)
     try (replace x1 := x1.up uu)
     clear uu
     obtain ⟨WC, hWC⟩ : ∃ W, W = WD := ⟨_, rfl⟩
     subst hWC
     rw [HP0.out] at o
     obtain ⟨Xo, Yo, rfl, o, od⟩ := o
     obtain ⟨Ao, no, co, rfl⟩ := o.shape
     obtain ⟨Aod, nod, cod, rfl⟩ := od.shape
     try go_wp2_with fail
     refine hK.out _ _ (by exact ⟨UP, HOLD.out _ UP⟩) (fun hHeld => ?_)
     clear hK K
     try simp only [gs, Act.put])
  | (have hK := hK7
     clear hK7
     (try clear hHeld)
     go_simp
     go_at_call 116
     ((with_reducible refine (frac_quo ((qw_of o od).fr LO) FX (by omega) (by omega)).mono ?_))
     rintro e WD ⟨V7, rfl, y, uu⟩
     refine li2 uu FX UP ?_; clear FX UP; intro FX UP
     try (replace o := o.up uu)
     try (replace od := od.up uu)
     try (replace yd := yd.up uu)
     try (replace x1 := x1.up uu)
     clear uu
     obtain ⟨WC, hWC⟩ : ∃ W, W = WD := ⟨_, rfl⟩
     subst hWC
     rw [HC.out] at y
     obtain ⟨Xy, Yy, rfl, y, yd⟩ := y
     obtain ⟨Ay, ny, cy, rfl⟩ := y.shape
     obtain ⟨Ayd, nyd, cyd, rfl⟩ := yd.shape
     try go_wp2_with fail
     refine hK.out _ _ (by exact ⟨UP, HOLD.out _ UP⟩) (fun hHeld => ?_)
     clear hK K
     try simp only [gs, Act.put])
  | (have hK := hK11
     clear hK11
     (try clear hHeld)
     go_simp
     have x1 := Bx.new 34 WC [.bool false, .slice none 0 0, .slice none 0 0]
     have x1_base := UP.size
     have nu := ((Up.refl WC).alloc (.cells #[.bool false, .slice none 0 0, .slice none 0 0] 34))
     refine li2 nu FX UP ?_; clear FX UP; intro FX UP
     try (replace o := o.up nu)
     try (replace y := y.up nu)
     try (replace od := od.up nu)
     try (replace yd := yd.up nu)
     clear nu
     generalize WC.alloc (.cells #[.bool false, .slice none 0 0, .slice none 0 0] 34) = WD at *
     generalize WC.heap.size = gx1 at *
     obtain ⟨WC, hWC⟩ : ∃ W, W = WD := ⟨_, rfl⟩
     subst hWC
     refine hK.out _ _ (by exact ⟨UP, HOLD.out _ UP⟩) (fun hHeld => ?_)
     clear hK K
     try simp only [gs, Act.put])
  | (have hK := hK12
     clear hK12
     (try clear hHeld)
     obtain ⟨ce0, ce1, ce2⟩ := x1.c3
     have fr0 := x1.free 0
     have fr1 := x1.free 1
     have fr2 := x1.free 2
     go_simp
     clear ce0 ce1 ce2 fr0 fr1 fr2
     have KW : Kw (WC) ((WC).setCell ⟨gx1, 0, none⟩ (.bool (Wd.ngb c.num))) := Kw.store (c := (.bool false)) x1 rfl trivial _
     replace FX := FX.kw KW
     try (replace o := o.kw KW)
     try (replace y := y.kw KW)
     try (replace od := od.kw KW)
     try (replace yd := yd.kw KW)
     replace x1 : Bx 34 ((WC).setCell ⟨gx1, 0, none⟩ (.bool (Wd.ngb c.num))) (gx1) [.bool (Wd.ngb c.num), .slice none 0 0, .slice none 0 0] := x1.set 0 (.bool (Wd.ngb c.num))
     replace UP := UP.setCell (p := ⟨gx1, 0, none⟩) (by dsimp only; omega) (.bool (Wd.ngb c.num))
     have KW : Kw (((WC).setCell ⟨gx1, 0, none⟩ (.bool (Wd.ngb c.num)))) ((((WC).setCell ⟨gx1, 0, none⟩ (.bool (Wd.ngb c.num)))).setCell ⟨gx1, 1, none⟩ (.slice Ay ny cy)) := Kw.store (c := (.slice none 0 0)) x1 rfl trivial _
     replace FX := FX.kw KW
     try (replace o := o.kw KW)
     try (replace y := y.kw KW)
     try (replace od := od.kw KW)
     try (replace yd := yd.kw KW)
     replace x1 : Bx 34 ((((WC).setCell ⟨gx1, 0, none⟩ (.bool (Wd.ngb c.num)))).setCell ⟨gx1, 1, none⟩ (.slice Ay ny cy)) (gx1) [.bool (Wd.ngb c.num), .slice Ay ny cy, .slice none 0 0] := x1.set 1 (.slice Ay ny cy)
     replace UP := UP.setCell (p := ⟨gx1, 1, none⟩) (by dsimp only; omega) (.slice Ay ny cy)
     have KW : Kw (((((WC).setCell ⟨gx1, 0, none⟩ (.bool (Wd.ngb c.num)))).setCell ⟨gx1, 1, none⟩ (.slice Ay ny cy))) ((((((WC).setCell ⟨gx1, 0, none⟩ (.bool (Wd.ngb c.num)))).setCell ⟨gx1, 1, none⟩ (.slice Ay ny cy))).setCell ⟨gx1, 2, none⟩ (.slice Ayd nyd cyd)) := Kw.store (c := (.slice none 0 0)) x1 rfl trivial _
     replace FX := FX.kw KW
     try (replace o := o.kw KW)
     try (replace y := y.kw KW)
     try (replace od := od.kw KW)
     try (replace yd := yd.kw KW)
     replace x1 : Bx 34 ((((((WC).setCell ⟨gx1, 0, none⟩ (.bool (Wd.ngb c.num)))).setCell ⟨gx1, 1, none⟩ (.slice Ay ny cy))).setCell ⟨gx1, 2, none⟩ (.slice Ayd nyd cyd)) (gx1) [.bool (Wd.ngb c.num), .slice Ay ny cy, .slice Ayd nyd cyd] := x1.set 2 (.slice Ayd nyd cyd)
     replace UP := UP.setCell (p := ⟨gx1, 2, none⟩) (by dsimp only; omega) (.slice Ayd nyd cyd)
     clear KW
     generalize ((((((WC).setCell ⟨gx1, 0, none⟩ (.bool (Wd.ngb c.num)))).setCell ⟨gx1, 1, none⟩ (.slice Ay ny cy))).setCell ⟨gx1, 2, none⟩ (.slice Ayd nyd cyd)) = WD at *
     obtain ⟨WC, hWC⟩ : ∃ W, W = WD := ⟨_, rfl⟩
     subst hWC
     refine hK.out _ _ (by exact ⟨UP, HOLD.out _ UP⟩) (fun hHeld => ?_)
     clear hK K
     try simp only [gs, Act.put])
  | (have hK := hK13
     clear hK13
     (try clear hHeld)
     go_simp
     refine hK.out _ _ (by exact ⟨UP, HOLD.out _ UP⟩) (fun hHeld => ?_)
     clear hK K
     try simp only [gs, Act.put])
  | refine wpAnyH_done (by decide +kernel) (NoPanic.normal ?_) _
  | fail
 all_goals try clear hHeld
 all_goals obtain ⟨x1_0, x1_1, x1_2⟩ := x1.c3
 all_goals
  go_wp2_with fail
  ((with_reducible refine (poly_scale ((qw_of y yd).fr LC) (HH.out.up UP).sq (by omega) (by omega) (by omega)).mono ?_))
  rintro e W9 ⟨V9, rfl, R9, u9⟩
  rw [HNM.out] at R9
  have F9 := Lib.hid ((R9.re HLM.out).weaken UP)
  have U9 := Lib.hid (UP.trans u9)
  clear R9 u9
  go_wp2
  go_ret
  exact ⟨_, rfl, F9.out, U9.out⟩
def lenV : Value → Nat
 | .slice _ n _ => n
 | _ => 0
/-- What comes back: the common divisor. -/
def RetG (K : Nat) (x y : List Rat) (w : World) (e : Ending) (w' : World) : Prop := ∃ V g, e = .returned V ∧ PRow K w w' V g ∧ Pq.IsGcd x y g ∧ Pq.Lp g K ∧ g.length ≤ max x.length y.length ∧ Up w w'
set_option maxRecDepth 100000 in
set_option maxHeartbeats 6400000 in
theorem poly_gcd {v u : Value} {x y : List Rat} {ka kb jx jy m K : Nat} {w : World} (h : FSq ka w v x) (h2 : FSq kb w u y) (hx : x.length ≤ m) (hy : y.length ≤ m) (hm : m ≤ 10000) (LX : Pq.Lp x jx) (LY : Pq.Lp y jy) (HK : Hid (∀ n, (∀ i, i < n → (Pq.gst x y i).2 ≠ []) → Pq.Lp (Pq.gst x y n).1 K ∧ Pq.Lp (Pq.gst x y n).2 K)) (hK : 2 * K + (m + 1) * (K + 1) ≤ 3000000) (hka : ka ≤ 2000000) (hkb : kb ≤ 2000000) :
 Calls Tryz.prog 46 #[v, u] w (RetG K x y w) := by
 have HLM : Hid (max x.length y.length ≤ m) := Lib.hid (by omega)
 have HS : Hid (∀ n, (∀ i, i < n → (Pq.gst x y i).2 ≠ []) → (Pq.gst x y n).1.length ≤ max x.length y.length ∧ (Pq.gst x y n).2.length ≤ max x.length y.length) := Lib.hid (fun n hn => Pq.gst_len x y (by omega) (by omega) n hn)
 have HMO := Lib.hid (Pq.gst_mo x y)
 have HSP := Lib.hid (Pq.gst_span x y)
 have hK2 : K ≤ 3000000 := by
  have : K ≤ 2 * K := by omega
  omega
 have lx9 : (Pq.nm x).length ≤ 10000 := Nat.le_trans (Pq.nm_len x) (by omega)
 have ly9 : (Pq.nm y).length ≤ 10000 := Nat.le_trans (Pq.nm_len y) (by omega)
 have LXN := Lib.hid LX.nm
 have LYN := Lib.hid LY.nm
 have HG0 : Hid (Pq.mo (Pq.nm x) = (Pq.gst x y 0).1 ∧ Pq.mo (Pq.nm y) = (Pq.gst x y 0).2) := Lib.hid ⟨rfl, rfl⟩
 have HG1 : Hid (∀ n, Pq.mo (Pq.dr (Pq.gst x y n).1 (Pq.gst x y n).2) = (Pq.gst x y (n + 1)).2 ∧ (Pq.gst x y n).2 = (Pq.gst x y (n + 1)).1) := Lib.hid (fun n => ⟨rfl, rfl⟩)
 have L0 := Lib.hid (HK.out 0 (fun i hi => absurd hi (Nat.not_lt_zero _)))
 have TX := Lib.hid (Pq.tr_nm x)
 have TY := Lib.hid (Pq.tr_nm y)
 obtain ⟨A, cp, rfl⟩ := h.form
 obtain ⟨B, cq, rfl⟩ := h2.form
 have H2 := Lib.hid h2
 have hxs : x.length ≤ 100000000 := by omega
 have hys : y.length ≤ 100000000 := by omega
 clear LX LY
 go_enter Tryz.func46, Tryz.ntmps46
 go_wp2_with fail
 refine (poly_norm h.sq hxs (by omega)).mono ?_
 rintro e w1 ⟨V1, rfl, R1, u1⟩
 have F1 := R1.fs
 obtain ⟨A1, c1, rfl⟩ := R1.form
 clear R1 h h2
 go_wp2_with fail
 refine (poly_monic F1 lx9 TX.out LXN.out (by omega)).mono ?_
 rintro e w2 ⟨V2, rfl, R2, u2⟩
 have U2 := u1.trans u2
 have P2 := (R2.weaken u1).re (k := K) (by rw [HG0.out.1]; exact L0.out.1.lq)
 obtain ⟨A2, c2, rfl⟩ := R2.form
 clear R2 F1 u1 u2
 go_wp2_with fail
 refine (poly_norm (H2.out.up U2).sq hys (by omega)).mono ?_
 rintro e w3 ⟨V3, rfl, R3, u3⟩
 have F3 := R3.fs
 have P2 := P2.up u3
 have U3 := U2.trans u3
 obtain ⟨A3, c3, rfl⟩ := R3.form
 clear R3 u3 U2
 go_wp2_with fail
 refine (poly_monic F3 ly9 TY.out LYN.out (by omega)).mono ?_
 rintro e w4 ⟨V4, rfl, R4, u4⟩
 have P4 := (R4.weaken U3).re (k := K) (by rw [HG0.out.2]; exact L0.out.2.lq)
 have P2 := P2.up u4
 have U4 := U3.trans u4
 obtain ⟨A4, c4, rfl⟩ := R4.form
 rw [HG0.out.1] at P2 ⊢
 rw [HG0.out.2] at P4 ⊢
 clear R4 F3 u4 U3
 have HP2 := Lib.hid P2
 have HP4 := Lib.hid P4
 have HU4 := Lib.hid U4
 clear P2 P4 U4
 go_wp2_with fail
 go_loopw [0, 1, 5, 6, 7] (fun s0 s1 _ _ _ wr => ∃ n : Nat, Hid (∀ i, i < n → (Pq.gst x y i).2 ≠ []) ∧ PRow K w wr s0 (Pq.gst x y n).1 ∧ PRow K w wr s1 (Pq.gst x y n).2 ∧ Up w wr) (fun _ s1 _ _ _ _ => lenV s1)
 case atStart => exact ⟨0, Lib.hid (fun i hi => absurd hi (Nat.not_lt_zero _)), HP2.out, HP4.out, HU4.out⟩
 case round =>
  clear HP2 HP4 HU4
  obtain ⟨n, HN, MA, MB, UP⟩ := hrel
  have LN := HK.out n HN.out
  have SN := HS.out n HN.out
  have TN := HMO.out n
  obtain ⟨A5, c5, rfl⟩ := MA.form
  obtain ⟨B5, d5, rfl⟩ := MB.form
  by_cases h0 : (Pq.gst x y n).2 = []
  · have e0 : (Pq.gst x y n).2.length = 0 := by rw [h0]; rfl
    have HSPN : Hid (Pq.IsGcd x y (Pq.gst x y n).1) := Lib.hid (Pq.IsGcd.of_span (by have := HSP.out n HN.out; rwa [h0] at this) TN.1)
    have HMA := Lib.hid MA
    have HLN := Lib.hid LN.1
    have HSN := Lib.hid SN.1
    clear MA MB LN SN TN h0
    go_wp2
    go_ret
    exact ⟨_, _, rfl, HMA.out, HSPN.out, HLN.out, HSN.out, UP⟩
  · have HN1 : Hid (∀ i, i < n + 1 → (Pq.gst x y i).2 ≠ []) := Lib.hid (fun i hi => by
     rcases Nat.lt_or_ge i n with hh | hh
     · exact HN.out i hh
     · obtain rfl : i = n := by omega
       exact h0)
    have h1 : 1 ≤ (Pq.gst x y n).2.length := List.length_pos_iff.2 h0
    have HLS := Lib.hid (Pq.gst_less h0)
    have LN1 := Lib.hid (HK.out (n + 1) HN1.out).2.lq
    obtain ⟨HE1, HE2⟩ := HG1.out n
    have hm1 : (Pq.gst x y n).1.length ≤ m := by have := HLM.out; omega
    have hm2 : (Pq.gst x y n).2.length ≤ m := by have := HLM.out; omega
    have hb1 : Hid (K + K + ((Pq.gst x y n).1.length + 1) * (K + 1) ≤ 3000000) := Lib.hid (by
     have : ((Pq.gst x y n).1.length + 1) * (K + 1) ≤ (m + 1) * (K + 1) := Nat.mul_le_mul_right _ (by omega)
     omega)
    have HTR := Lib.hid (Pq.dr_tr (Pq.gst x y n).1 (Pq.gst x y n).2)
    have HDS := Lib.hid (Pq.dqr_size LN.1 LN.2).2
    have HDL : Hid ((Pq.dr (Pq.gst x y n).1 (Pq.gst x y n).2).length ≤ 10000) := Lib.hid (by
     have := HLS.out
     rw [← HE1, Pq.mo_len] at this
     omega)
    clear h0 SN TN HN
    have H1E := Lib.hid HE1
    have H2E := Lib.hid HE2
    clear HE1 HE2
    have HLNs := Lib.hid LN
    clear LN
    have FA := MA.fs
    have FB := MB.fs
    have HMB := Lib.hid MB
    clear MA MB
    generalize (Pq.gst x y n).1 = a at *
    generalize (Pq.gst x y n).2 = b at *
    go_wp2_with fail
    refine (poly_div FA FB (by omega) (by omega) HLNs.out.1 HLNs.out.2 hb1.out (by omega) (by omega) (by omega)).mono ?_
    rintro e w5 ⟨V5, R5, rfl, Q5, S5, u5⟩
    obtain ⟨A6, c6, rfl⟩ := Q5.form
    obtain ⟨A7, c7, rfl⟩ := S5.form
    have F5 := S5.fs
    have U5 := UP.trans u5
    have HMB2 := Lib.hid (HMB.out.up u5)
    clear Q5 S5 u5 FA FB HMB
    go_wp2_with fail
    refine (poly_monic F5 HDL.out HTR.out HDS.out (by omega)).mono ?_
    rintro e w6 ⟨V6, rfl, R6, u6⟩
    rw [H1E.out] at R6
    have R7 := Lib.hid ((R6.weaken U5).re LN1.out)
    have HMB3 : Hid (PRow K w w6 (.slice B5 b.length d5) (Pq.gst x y (n + 1)).1) := Lib.hid (by rw [← H2E.out]; exact HMB2.out.up u6)
    have U6 := Lib.hid (U5.trans u6)
    obtain ⟨A8, c8, rfl⟩ := R6.form
    clear R6 u6 U5 F5 HMB2
    go_wp2_with fail
    go_roundw
    case rel => exact ⟨n + 1, HN1, HMB3.out, R7.out, U6.out⟩
    case measure => exact HLS.out
end Go.Proofs.YtmmcffceeahemaaGreat
namespace Go.Proofs.YtmmcffceeahemaaGreat
open Go.RowKit
theorem poly_mul2 {v u : Value} {ps qs : List Rat} {ka kb j k : Nat} {w : World} (h : FSq ka w v ps) (h2 : FSq kb w u qs) (LP : Pq.Lp ps j) (LQ : Pq.Lp qs k) (hl : ps.length ≤ 10000) (hl2 : qs.length ≤ 10000) (hka : ka ≤ 4000000) (hkb : kb ≤ 4000000) (hk : j + k ≤ 3000000) :
 Calls Tryz.prog 39 #[v, u] w (RetP (j + k + 1) (Pq.nm (Pq.mul ps qs)) w) := by
 have h1 := LP.one_le
 exact (poly_mul h h2 hl hl2 (Lib.hid (Pq.mul_states LP LQ (by omega))) hka hkb (by omega) (by omega)).mono fun e w' h => h.re (LP.mul LQ (by omega)).lq
theorem Lp.sub2 {p q : List Rat} {j k : Nat} (h : Pq.Lp p j) (h' : Pq.Lp q k) : Pq.Lp (Pq.sub p q) (j + k + 1) := h.add (Pq.Lp.scn (c := -1) (by omega) h')
theorem poly_sub2 {v u : Value} {ps qs : List Rat} {ka kb j k : Nat} {w : World} (h : FSq ka w v ps) (h2 : FSq kb w u qs) (LP : Pq.Lp ps j) (LQ : Pq.Lp qs k) (hl : ps.length ≤ 10000) (hl2 : qs.length ≤ 10000) (hka : ka ≤ 3000000) (hkb : kb ≤ 3000000) :
 Calls Tryz.prog 37 #[v, u] w (RetP (j + k + 1) (Pq.nm (Pq.sub ps qs)) w) :=
 (poly_sub (h.mono (Nat.le_add_right ka 2)) (h2.mono (Nat.le_add_right kb 2)) hl hl2 (by omega) (by omega) (by omega) (by omega)).mono fun e w' h => h.re (Lp.sub2 LP LQ).nm.lq
theorem df_mem {p : List Rat} {d N : Nat} (h : ∀ q ∈ p, Pq.Cm d N q) : ∀ (k : Nat), ∀ x ∈ Pq.dfl k p, Pq.Cm d (N * (k + p.length)) x := by
 induction p with
 | nil => intro k x hx; simp [Pq.dfl] at hx
 | cons a p ih =>
   intro k x hx
   rcases List.mem_cons.1 (show x ∈ ((k : Rat) * a) :: Pq.dfl (k + 1) p from hx) with rfl | hx
   · obtain ⟨n, h1, h2⟩ := h a (by simp)
     refine ⟨k * n, by push_cast; rw [← h1]; grind, ?_⟩
     rw [Int.natAbs_mul, Int.natAbs_natCast, Nat.mul_comm]
     exact Nat.mul_le_mul h2 (by omega)
   · have := ih (fun q hq => h q (by simp [hq])) (k + 1) x hx
     rw [List.length_cons]
     rwa [show k + (p.length + 1) = k + 1 + p.length by omega]
theorem Lp.df {p : List Rat} {k : Nat} (h : Pq.Lp p k) (hl : p.length ≤ 1000000) : Pq.Lp (Pq.df p) (k + 1) := by
 obtain ⟨d, h1, h2, N, h3, h4⟩ := h
 have hb : 1 + p.tail.length ≤ Wd.B := by rw [Wd.B_eq, List.length_tail]; omega
 refine ⟨d, h1, Nat.lt_of_lt_of_le h2 (Nat.pow_le_pow_right Wd.B_pos (by omega)), N * (1 + p.tail.length), ?_, df_mem (fun q hq => h4 q (List.mem_of_mem_tail hq)) 1⟩
 rw [Nat.mul_comm]
 exact Pq.count_lt hb h3 Wd.B_pos
theorem fs_row {k : Nat} {w : World} {g : Nat} {xs : List F3} {qs : List Rat} (hb : Bx 34 w g (fcells xs)) (ha : Al (fun x q => Frk k w x.agg q) xs qs) (hl : qs.length ≤ 1000000) : FSq k w (.slice (some ⟨g, 0, none⟩) qs.length qs.length) qs := by
 have hok : ∀ x ∈ xs, x.ok := fun x hx => by
  obtain ⟨j, hj⟩ := List.getElem?_of_mem hx
  have hjl : j < qs.length := by rw [← ha.1]; exact (List.getElem?_eq_some_iff.1 hj).1
  obtain ⟨z, e, hz⟩ := (kp_fr k).form (ha.2 j x _ hj (List.getElem?_eq_getElem hjl))
  rw [F3.agg_inj e]
  exact hz
 have : OwnQ (Frk k) 34 0 w (.slice (some ⟨g, 0, none⟩) xs.length xs.length) qs := ⟨xs, ha, hok, .inr ⟨g, [], rfl, Nat.zero_le _, by rw [List.append_nil]; exact hb, by simp, by rw [ha.1]; simp [maxLen]; omega⟩⟩
 rw [ha.1] at this
 exact this.sq
theorem fs_two {k : Nat} {w : World} {g : Nat} {s1 s2 : Bool} {u1 d1 u2 d2 : Value} {q1 q2 : Rat} (hb : Bx 34 w g [.bool s1, u1, d1, .bool s2, u2, d2]) (h1 : Fr w (.agg #[.bool s1, u1, d1]) q1 k) (h2 : Fr w (.agg #[.bool s2, u2, d2]) q2 k) : FSq k w (.slice (some ⟨g, 0, none⟩) 2 2) [q1, q2] :=
 fs_row (xs := [⟨s1, u1, d1⟩, ⟨s2, u2, d2⟩]) hb ((Al.one (R := fun x q => Frk k w x.agg q) (x := ⟨s1, u1, d1⟩) h1).append (Al.one h2)) (by simp)
end Go.Proofs.YtmmcffceeahemaaGreat
set_option maxRecDepth 100000
namespace Go.Proofs.YtmmcffceeahemaaGreat
open Go.RowKit Go.ChangeShapes Go.WideShapes Go.Deep
instance : Inhabited F3 := ⟨F3.zero⟩
theorem raws_of_trod {H : Type} {enc : TypeId × Value → H} {W : World} {fuel : Nat} {v : Value} {x : DataW H × List MemPlace} (h : DataW.trod enc Tryz.prog W 0 (fun _ => true) true fuel 44 [v] = some x) : ∃ rs, Sq Rw W v rs := by
 rcases open_slice Tryz.underlying44 h with ⟨hcs, _⟩ | ⟨a, len, cap, m, n, D, Pl, hcs, _, hl, hm, hmm, _, hi⟩
 · simp at hcs
   subst hcs
   exact ⟨[], Sq.nil Rw W⟩
 · simp at hcs hmm
   subst hcs hmm
   have hex : ∀ i, i < len → ∃ y : F3 × Raw, Rw W y.1.agg y.2 ∧ W.cell? (a.add (i * 3)) = some (.bool y.1.s) ∧ W.cell? (a.add (i * 3 + 1)) = some y.1.u ∧ W.cell? (a.add (i * 3 + 2)) = some y.1.d := fun i him => by
    obtain ⟨cs, hc, ht⟩ := hi i (by omega)
    rw [cells_rfrac] at hc
    obtain ⟨ys, n', _, _, hlen, hyl, hf⟩ := DataW.trod_struct Tryz.underlying24 ht
    obtain ⟨_, hcl, hat⟩ := World.cells?_some hc
    match cs, hcl with
    | [c0, c1, c2], _ =>
      have q0 := hat 0 (by omega)
      have q1 := hat 1 (by omega)
      have q2 := hat 2 (by omega)
      rw [add_add] at q0 q1 q2
      simp only [List.getElem?_cons_zero, List.getElem?_cons_succ, Nat.add_zero] at q0 q1 q2
      have k3 : Tryz.prog.cellsOf 4 = 1 := by kernel_rfl
      have f0 : DataW.trod enc Tryz.prog W 0 (fun _ => true) true n' 4 (([c0, c1, c2].drop 0).take (Tryz.prog.cellsOf 4)) = ys[0]? := hf 0 _ rfl
      have f1 : DataW.trod enc Tryz.prog W 0 (fun _ => true) true n' 22 (([c0, c1, c2].drop 1).take (Tryz.prog.cellsOf 22)) = ys[1]? := hf 1 _ rfl
      have f2 : DataW.trod enc Tryz.prog W 0 (fun _ => true) true n' 22 (([c0, c1, c2].drop 2).take (Tryz.prog.cellsOf 22)) = ys[2]? := hf 2 _ rfl
      have hy3 : ys.length = 3 := hyl
      rw [k3] at f0
      rw [cells_words] at f1 f2
      rw [List.getElem?_eq_getElem (by omega)] at f0 f1 f2
      obtain ⟨b0, e0⟩ := DataW.trod_bool Tryz.underlying4 f0
      obtain ⟨l, hw⟩ := words_of_trod f1
      obtain ⟨m, hw2⟩ := words_of_trod f2
      obtain ⟨e0, _⟩ := e0
      simp at e0
      subst e0
      exact ⟨(⟨b0, c1, c2⟩, (b0, l, m)), ⟨c1, c2, rfl, hw, hw2⟩, q0, q1, q2⟩
   obtain ⟨L, hL⟩ := choose_lt (α := F3 × Raw) (p := fun i y => Rw W y.1.agg y.2 ∧ W.cell? (a.add (i * 3)) = some (.bool y.1.s) ∧ W.cell? (a.add (i * 3 + 1)) = some y.1.u ∧ W.cell? (a.add (i * 3 + 2)) = some y.1.d) hex
   have hat : ∀ (j : Nat) x, ((List.range len).map fun i => (L i).1)[j]? = some x → j < len ∧ x = (L j).1 := fun j x hj => by
    simp only [List.getElem?_map, Option.map_eq_some_iff] at hj
    obtain ⟨k, hk, rfl⟩ := hj
    obtain ⟨hk3, hk4⟩ := List.getElem?_eq_some_iff.1 hk
    simp at hk3 hk4
    exact ⟨hk3, by rw [hk4]⟩
   have hlx : (fcells ((List.range len).map fun i => (L i).1)).length = len * 3 := by rw [fcells_len]; simp
   refine ⟨(List.range len).map fun i => (L i).2, some a, m, (List.range len).map fun i => (L i).1, by simp, by simpa using hl, hm, ⟨by simp, fun j x q h1 h2 => ?_⟩, rdv_of_cells hlx fun i u hu => ?_⟩
   · obtain ⟨hj, rfl⟩ := hat j x h1
     simp only [List.getElem?_map, Option.map_eq_some_iff] at h2
     obtain ⟨k, hk, rfl⟩ := h2
     obtain ⟨hk3, hk4⟩ := List.getElem?_eq_some_iff.1 hk
     simp at hk3 hk4
     subst hk4
     exact (hL j hj).1
   · have hil : i < len * 3 := by
      rw [← hlx]
      exact (List.getElem?_eq_some_iff.1 hu).1
     obtain ⟨q, hq, hcase⟩ : ∃ q, q < len ∧ (i = q * 3 ∨ i = q * 3 + 1 ∨ i = q * 3 + 2) := ⟨i / 3, by omega, by omega⟩
     obtain ⟨z1, z2, z3⟩ := fcells_at ((List.range len).map fun i => (L i).1) q (L q).1 (by simp [hq])
     obtain ⟨_, c1, c2, c3⟩ := hL q hq
     rcases hcase with rfl | rfl | rfl
     · rw [z1] at hu; cases hu; exact c1
     · rw [z2] at hu; cases hu; exact c2
     · rw [z3] at hu; cases hu; exact c3
/-- Rows of fractions, one behind the other. -/
def Sqs {α : Type} (P : World → Value → α → Prop) (w : World) (v : Value) (ls : List (List α)) : Prop :=
 ∃ A c vs, v = .slice A ls.length c ∧ ls.length ≤ c ∧ c ≤ maxLen ∧ vs.length = ls.length ∧ RdV w A vs ∧ ∀ (i : Nat) u l, vs[i]? = some u → ls[i]? = some l → Sq P w u l
theorem Sqs.up {α : Type} {P : World → Value → α → Prop} (kp : Kp P) {w w' : World} {v : Value} {ls : List (List α)} (h : Sqs P w v ls) (hu : Up w w') : Sqs P w' v ls := by
 obtain ⟨A, c, vs, h1, h2, h3, h4, h5, h6⟩ := h
 exact ⟨A, c, vs, h1, h2, h3, h4, h5.up hu, fun i u l hu' hl => (h6 i u l hu' hl).up kp hu⟩
theorem Sqs.form {α : Type} {P : World → Value → α → Prop} {w : World} {v : Value} {ls : List (List α)} (h : Sqs P w v ls) : ∃ A c, v = .slice A ls.length c := by obtain ⟨A, c, vs, h1, _⟩ := h; exact ⟨A, c, h1⟩
theorem Sqs.at_ {α : Type} {P : World → Value → α → Prop} {w : World} {A : Option Addr} {n c : Nat} {ls : List (List α)} (h : Sqs P w (.slice A n c) ls) {k : Nat} (hk : k < ls.length) :
 ∃ b o u, A = some ⟨b, o, none⟩ ∧ b < w.heap.size ∧ w.cell? ⟨b, o + k, none⟩ = some u ∧ Sq P w u ls[k] := by
 obtain ⟨A', c', vs, h1, h2, h3, h4, h5, h6⟩ := h
 cases h1
 have hkv : k < vs.length := by omega
 obtain ⟨b, o, h1, h2, h3⟩ := h5.at_ (List.getElem?_eq_getElem hkv)
 exact ⟨b, o, vs[k], h1, h2, h3, h6 k _ _ (List.getElem?_eq_getElem hkv) (List.getElem?_eq_getElem hk)⟩
theorem cells_fracs : Tryz.prog.cellsOf 44 = 1 := by kernel_rfl
end Go.Proofs.YtmmcffceeahemaaGreat
namespace Pq
theorem D_nm : ∀ (p : List Rat) (x : Rat), D (nm p) x = D p x
 | [], x => rfl
 | a :: p, x => by
   have ih := D_nm p x
   unfold nm
   split
   · rename_i h
     have h2 := E_of_nil h.2 x
     rw [h.2] at ih
     simp only [D] at ih ⊢
     rw [h2, ← ih]
     grind
   · simp only [D, E_nm, ih]
theorem mul_le : ∀ p q : List Rat, (mul p q).length ≤ p.length + q.length
 | [], q => by simp [mul]
 | a :: p, q => by
   have := mul_le p q
   rw [mul, add_len, sc_len]
   simp only [List.length_cons]
   omega
theorem leibniz (p q : List Rat) : nm (nm (df (nm (mul p q)))) = nm (nm (add (nm (mul (nm (df p)) q)) (nm (mul p (nm (df q)))))) := nm_ext fun x => by
 simp only [E_nm, E_df, E_add, E_mul, D_nm, D_mul]
theorem nm_mul_len (p q : List Rat) : (nm (mul p q)).length ≤ p.length + q.length - 1 := by
 by_cases hp : p = []
 · subst hp; simp [mul, nm]
 by_cases hq : q = []
 · subst hq
   rw [nm_nil (p := mul p []) (fun x => by rw [E_mul, E_nil, Rat.mul_zero])]
   simp
 have := mul_len p q hp hq
 have := nm_len (mul p q)
 omega
theorem back (p q : List Rat) (h : nm q ≠ []) : nm (nm (add (nm (mul (dq p q) q)) (dr p q))) = nm p := nm_ext fun x => by
 rw [E_nm, E_add, E_nm, E_mul]
 exact ((dqr_div h).1 x).symm
theorem dq_len (p q : List Rat) : (dq p q).length ≤ p.length + 1 := by
 unfold dq
 split
 · simp
 · split
   · simp
   · refine Nat.le_trans (nm_len _) ?_
     have h1 : (qt (nm p) (nm q)).length = (nm p).length - (nm q).length + 1 := (dst_len _ _ _).2
     have := nm_len p
     omega
end Pq
namespace Go.Proofs.YtmmcffceeahemaaGreat
open Go.RowKit
/-- A row as it is spelled. -/
def RSq (w : World) (v : Value) (rs : List Raw) : Prop := Sq Rw w v rs
theorem RSq.up {w w' : World} {v : Value} {rs : List Raw} (h : RSq w v rs) (hu : Up w w') : RSq w' v rs := Sq.up kp_rw h hu
instance RSq.lup {w w' : World} {v : Value} {rs : List Raw} : Lu (Up w w') (RSq w v rs) (RSq w' v rs) := luM fun u h => h.up u
theorem RSq.form {w : World} {v : Value} {rs : List Raw} (h : RSq w v rs) : ∃ A c, v = .slice A rs.length c := Sq.form h
theorem RSq.fs {w : World} {v : Value} {rs : List Raw} (h : RSq w v rs) {k : Nat} (hk : ∀ r ∈ rs, r.few k) (h1 : 1 ≤ k) : FSq k w v (rs.map Raw.val) := Sq.frs h hk h1
theorem ref_long11r {v : Value} {rs : List Raw} {w : World} (m k : Nat) (h : RSq w v rs) (hm : m ≤ 1000000) (hk : k ≤ 1000000) : Calls Tryz.prog 19 #[v, .int .i64 (m : Int), .int .i64 (k : Int)] w (RetLong11 rs m k w) := ref_long11 m k h (by omega) (by omega)
theorem fs_nil (k : Nat) (w : World) : FSq k w (.slice none 0 0) [] := Sq.nil _ _
end Go.Proofs.YtmmcffceeahemaaGreat
