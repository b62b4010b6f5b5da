/-
  Layer 14: the common divisor.
-/
import Derived.Test.YtmmcffceeahemaaGreatPoly9
import Derived.Test.YtmmcffceeahemaaGreatPolyPlain
set_option linter.unusedVariables false
set_option linter.unusedSimpArgs false
namespace Go.Proofs.YtmmcffceeahemaaGreat
open Go.RowKit

set_option maxRecDepth 100000 in
set_option maxHeartbeats 6400000 in
theorem poly_monic {v : Value} {ps : List Rat} {j k : Nat} {w : World} (h : FSq k w v ps) (hl : ps.length ≤ 10000) (ht : Pq.Tr ps) (LP : Pq.Lp ps j) (hk : k ≤ 3900000) : Calls Tryz.prog 118 #[v] w (RetP j (Pq.mo ps) w) := by
 have HLM := Lib.hid (LP.mo ht).lq
 obtain ⟨A, cp, rfl⟩ := h.form
 by_cases h0 : ps = []
 · subst h0
   have e0 : ([] : List Rat).length = 0 := rfl
   go_enter Tryz.func118, Tryz.ntmps118
   go_wp2
   go_ret
   exact ⟨_, rfl, OwnQ.nil _ _ _ _, Up.refl w⟩
 have hl1 : 1 ≤ ps.length := List.length_pos_iff.2 h0
 obtain ⟨t, HT⟩ : ∃ t, Hid (ps.length = t + 1) := ⟨ps.length - 1, Lib.hid (by omega)⟩
 have HP : Hid (t < ps.length) := Lib.hid (by have := HT.out; omega)
 have HNM : Hid (Pq.nm (Pq.sc (1 / ps[t]'HP.out) ps) = Pq.mo ps) := Lib.hid (by
  rw [← Pq.nm_mo ht, show ps.length - 1 = t by have := HT.out; omega, Pq.getD_at HP.out])
 obtain ⟨b, oo, s, B, m0, f, D, n', f', e0, hb, g1, g2, g3, FX⟩ := h.sq.at_ (kp_fr k) HP.out
 subst e0
 have LX := h.lq _ (List.getElem_mem HP.out)
 generalize ps[t]'HP.out = x at *
 have FX : Fr w (.agg #[.bool s, .slice B m0 f, .slice D n' f']) x k := FX
 have HOLD : Hid (∀ w', Up w w' → w'.cell? ⟨b, oo + t * 3, none⟩ = some (.bool s) ∧ w'.cell? ⟨b, oo + t * 3 + 1, none⟩ = some (.slice B m0 f) ∧ w'.cell? ⟨b, oo + t * 3 + 2, none⟩ = some (.slice D n' f')) := Lib.hid (fun w' hu => ⟨hu.keeps g1, hu.keeps g2, hu.keeps g3⟩)
 clear g1 g2 g3 h0
 have HH := Lib.hid h
 clear h
 have k3 : IntKind.i64.wrap ((ps.length : Int) - 1) = (t : Int) := by have := HT.out; rw [IntKind.wrap_i64]; omega
 have k5 : (t : Int) < (ps.length : Int) := by have := HP.out; omega
 have hne : ((ps.length : Int) == 0) = false := beq_false_of_ne (by omega)
 obtain ⟨P0, HP0⟩ : ∃ P, Hid (((1 : Int) : Rat) = P) := ⟨_, Lib.hid rfl⟩
 have LO : Wd.Lq P0 2 := by rw [← HP0.out]; exact lq_int (by omega)
 obtain ⟨c, HC⟩ : ∃ c, Hid (P0 / x = c) := ⟨_, Lib.hid rfl⟩
 have LC : Wd.Lq c (2 + k) := by rw [← HC.out]; exact LO.div LX
 have HX1 : Hid (1 / x = c) := Lib.hid (by rw [← HC.out, ← HP0.out]; rfl)
 rw [HX1.out] at HNM
 have UP : Up w w := Up.refl w
 go_enter Tryz.func118, Tryz.ntmps118
 go_wp2_with fail
 go_wp2_with fail
 replace FX := FX.up (Up.refl w).drew
 replace UP := UP.trans (Up.refl w).drew
 refine wp_region_noPanic ?_
 refine wp_region_held_drew (S := fun w' => Up w w' ∧ (w'.cell? ⟨b, oo + t * 3, none⟩ = some (.bool s) ∧ w'.cell? ⟨b, oo + t * 3 + 1, none⟩ = some (.slice B m0 f) ∧ w'.cell? ⟨b, oo + t * 3 + 2, none⟩ = some (.slice D n' f'))) (by kernel_rfl) (by exact ⟨UP, HOLD.out _ UP⟩) (fun hHeld => ?_)
 clear hHeld
 generalize w.drew = WC at *
 have hHeld : Up w WC ∧ (WC.cell? ⟨b, oo + t * 3, none⟩ = some (.bool s) ∧ WC.cell? ⟨b, oo + t * 3 + 1, none⟩ = some (.slice B m0 f) ∧ WC.cell? ⟨b, oo + t * 3 + 2, none⟩ = some (.slice D n' f')) := by exact ⟨UP, HOLD.out _ UP⟩
 refine wpAnyH_take (i := 1) (v := ?_) rfl (by kernel_rfl) (by decide +kernel) (by decide +kernel) (fun _ _ _ h => h) (Or.inl ⟨by rfl, ?_⟩) (by assumption) ?_
 rotate_left
 · (intro w hSw; (try dsimp only at hSw); go_simp; first | done | with_reducible rfl)
 try simp only [List.getElem_toArray, List.getElem_cons_zero, List.getElem_cons_succ, Act.put, List.setIfInBounds_toArray, List.set_cons_zero, List.set_cons_succ]
 refine wpAnyH_take (i := 2) (v := ?_) rfl (by kernel_rfl) (by decide +kernel) (by decide +kernel) (fun _ _ _ h => h) (Or.inl ⟨by rfl, ?_⟩) (by assumption) ?_
 rotate_left
 · (intro w hSw; (try dsimp only at hSw); go_simp; first | done | with_reducible rfl)
 try simp only [List.getElem_toArray, List.getElem_cons_zero, List.getElem_cons_succ, Act.put, List.setIfInBounds_toArray, List.set_cons_zero, List.set_cons_succ]
 refine wpAnyH_take (i := 3) (v := ?_) rfl (by kernel_rfl) (by decide +kernel) (by decide +kernel) (fun _ _ _ h => h) (Or.inl ⟨by rfl, ?_⟩) (by assumption) ?_
 rotate_left
 · (intro w hSw; (try dsimp only at hSw); go_simp; first | done | with_reducible rfl)
 try simp only [List.getElem_toArray, List.getElem_cons_zero, List.getElem_cons_succ, Act.put, List.setIfInBounds_toArray, List.set_cons_zero, List.set_cons_succ]
 refine wpAnyH_take (i := 4) (v := ?_) rfl (by kernel_rfl) (by decide +kernel) (by decide +kernel) (fun _ _ _ h => h) (Or.inl ⟨by rfl, ?_⟩) (by assumption) ?_
 rotate_left
 · (intro w hSw; (try dsimp only at hSw); go_simp; first | done | with_reducible rfl)
 try simp only [List.getElem_toArray, List.getElem_cons_zero, List.getElem_cons_succ, Act.put, List.setIfInBounds_toArray, List.set_cons_zero, List.set_cons_succ]
 refine wpAnyH_take (i := 5) (v := ?_) rfl (by kernel_rfl) (by decide +kernel) (by decide +kernel) (fun _ _ _ h => h) (Or.inl ⟨by rfl, ?_⟩) (by assumption) ?_
 rotate_left
 · (intro w hSw; (try dsimp only at hSw); go_simp; first | done | with_reducible rfl)
 try simp only [List.getElem_toArray, List.getElem_cons_zero, List.getElem_cons_succ, Act.put, List.setIfInBounds_toArray, List.set_cons_zero, List.set_cons_succ]
 refine wpAnyH_take (i := 6) (v := ?_) rfl (by kernel_rfl) (by decide +kernel) (by decide +kernel) (fun _ _ _ h => h) (Or.inl ⟨by rfl, ?_⟩) (by assumption) ?_
 rotate_left
 · (intro w hSw; (try dsimp only at hSw); go_simp; first | done | with_reducible rfl)
 try simp only [List.getElem_toArray, List.getElem_cons_zero, List.getElem_cons_succ, Act.put, List.setIfInBounds_toArray, List.set_cons_zero, List.set_cons_succ]
 repeat' first
  | (refine wpAnyH_take (i := 8) (v := ?_) rfl (by kernel_rfl) (by decide +kernel) (by decide +kernel) (fun _ _ _ h => h) (Or.inl ⟨by rfl, ?_⟩) (by assumption) ?_
     rotate_left
     · (intro w hSw; (try dsimp only at hSw); go_simp; first | done | with_reducible rfl)
     try simp only [List.getElem_toArray, List.getElem_cons_zero, List.getElem_cons_succ, Act.put, List.setIfInBounds_toArray, List.set_cons_zero, List.set_cons_succ])
  | (refine wpAnyH_take (i := 9) (v := ?_) rfl (by kernel_rfl) (by decide +kernel) (by decide +kernel) (fun _ _ _ h => h) (Or.inl ⟨by rfl, ?_⟩) (by assumption) ?_
     rotate_left
     · (intro w hSw; (try dsimp only at hSw); go_simp; first | done | with_reducible rfl)
     try simp only [List.getElem_toArray, List.getElem_cons_zero, List.getElem_cons_succ, Act.put, List.setIfInBounds_toArray, List.set_cons_zero, List.set_cons_succ])
  | (refine wpAnyH_take (i := 10) (v := ?_) rfl (by kernel_rfl) (by decide +kernel) (by decide +kernel) (fun _ _ _ h => h) (Or.inl ⟨by rfl, ?_⟩) (by assumption) ?_
     rotate_left
     · (intro w hSw; (try dsimp only at hSw); go_simp; first | done | with_reducible rfl)
     try simp only [List.getElem_toArray, List.getElem_cons_zero, List.getElem_cons_succ, Act.put, List.setIfInBounds_toArray, List.set_cons_zero, List.set_cons_succ])
  | refine wpAnyH_ready (rs := [0, 11]) (by decide +kernel) (by simp) ?_
  | refine wpAnyH_ready (rs := [0]) (by decide +kernel) (by simp) ?_
  | refine wpAnyH_ready (rs := [7, 11]) (by decide +kernel) (by simp) ?_
  | refine wpAnyH_ready (rs := [7]) (by decide +kernel) (by simp) ?_
  | refine wpAnyH_ready (rs := [11]) (by decide +kernel) (by simp) ?_
  | refine wpAnyH_ready (rs := [12]) (by decide +kernel) (by simp) ?_
  | refine wpAnyH_ready (rs := [13]) (by decide +kernel) (by simp) ?_
  | refine AllReadyH.cons (i := 0) rfl (fun K hK0 => ?_) ?_
  | refine AllReadyH.cons (i := 7) rfl (fun K hK7 => ?_) ?_
  | refine AllReadyH.cons (i := 11) rfl (fun K hK11 => ?_) ?_
  | refine AllReadyH.cons (i := 12) rfl (fun K hK12 => ?_) ?_
  | refine AllReadyH.cons (i := 13) rfl (fun K hK13 => ?_) ?_
  | exact AllReadyH.nil
  | (have hK := hK0
     clear hK0
     (try clear hHeld)
     go_simp
     go_at_call 90
     ((with_reducible refine (frac_of (n := 1) (by omega) _).mono ?_))
     rintro e WD ⟨V0, rfl, o, uu⟩
     replace FX := FX.up uu
     try (replace y := y.up uu)
     try (replace od := od.up uu)
     try (replace yd := yd.up uu)
     try (replace x1 := x1.up uu)
     replace UP := UP.trans uu
     clear uu
     obtain ⟨WC, hWC⟩ : ∃ W, W = WD := ⟨_, rfl⟩
     subst hWC
     rw [HP0.out] at o
     obtain ⟨Xo, Yo, rfl, o, od⟩ := o
     obtain ⟨Ao, no, co, rfl⟩ := o.shape
     obtain ⟨Aod, nod, cod, rfl⟩ := od.shape
     try go_wp2_with fail
     refine hK.out _ _ (by exact ⟨UP, HOLD.out _ UP⟩) (fun hHeld => ?_)
     clear hK K
     try simp only [List.getElem_toArray, List.getElem_cons_zero, List.getElem_cons_succ, Act.put, List.setIfInBounds_toArray, List.set_cons_zero, List.set_cons_succ])
  | (have hK := hK7
     clear hK7
     (try clear hHeld)
     go_simp
     go_at_call 116
     ((with_reducible refine (frac_quo ((qw_of o od).fr LO) FX (by omega) (by omega)).mono ?_))
     rintro e WD ⟨V7, rfl, y, uu⟩
     replace FX := FX.up uu
     try (replace o := o.up uu)
     try (replace od := od.up uu)
     try (replace yd := yd.up uu)
     try (replace x1 := x1.up uu)
     replace UP := UP.trans uu
     clear uu
     obtain ⟨WC, hWC⟩ : ∃ W, W = WD := ⟨_, rfl⟩
     subst hWC
     rw [HC.out] at y
     obtain ⟨Xy, Yy, rfl, y, yd⟩ := y
     obtain ⟨Ay, ny, cy, rfl⟩ := y.shape
     obtain ⟨Ayd, nyd, cyd, rfl⟩ := yd.shape
     try go_wp2_with fail
     refine hK.out _ _ (by exact ⟨UP, HOLD.out _ UP⟩) (fun hHeld => ?_)
     clear hK K
     try simp only [List.getElem_toArray, List.getElem_cons_zero, List.getElem_cons_succ, Act.put, List.setIfInBounds_toArray, List.set_cons_zero, List.set_cons_succ])
  | (have hK := hK11
     clear hK11
     (try clear hHeld)
     go_simp
     have x1 := Bx.new 34 WC [.bool false, .slice none 0 0, .slice none 0 0]
     have x1_base := UP.size
     replace FX := FX.up ((Up.refl WC).alloc (.cells #[.bool false, .slice none 0 0, .slice none 0 0] 34))
     try (replace o := o.up ((Up.refl WC).alloc (.cells #[.bool false, .slice none 0 0, .slice none 0 0] 34)))
     try (replace y := y.up ((Up.refl WC).alloc (.cells #[.bool false, .slice none 0 0, .slice none 0 0] 34)))
     try (replace od := od.up ((Up.refl WC).alloc (.cells #[.bool false, .slice none 0 0, .slice none 0 0] 34)))
     try (replace yd := yd.up ((Up.refl WC).alloc (.cells #[.bool false, .slice none 0 0, .slice none 0 0] 34)))
     replace UP := UP.trans ((Up.refl WC).alloc (.cells #[.bool false, .slice none 0 0, .slice none 0 0] 34))
     generalize WC.alloc (.cells #[.bool false, .slice none 0 0, .slice none 0 0] 34) = WD at *
     generalize WC.heap.size = gx1 at *
     obtain ⟨WC, hWC⟩ : ∃ W, W = WD := ⟨_, rfl⟩
     subst hWC
     refine hK.out _ _ (by exact ⟨UP, HOLD.out _ UP⟩) (fun hHeld => ?_)
     clear hK K
     try simp only [List.getElem_toArray, List.getElem_cons_zero, List.getElem_cons_succ, Act.put, List.setIfInBounds_toArray, List.set_cons_zero, List.set_cons_succ])
  | (have hK := hK12
     clear hK12
     (try clear hHeld)
     obtain ⟨ce0, ce1, ce2⟩ := x1.c3
     have fr0 := x1.free 0
     have fr1 := x1.free 1
     have fr2 := x1.free 2
     go_simp
     clear ce0 ce1 ce2 fr0 fr1 fr2
     have KW : Kw (WC) ((WC).setCell ⟨gx1, 0, none⟩ (.bool (Wd.ngb c.num))) := Kw.store (c := (.bool false)) x1 rfl trivial _
     replace FX := FX.kw KW
     try (replace o := o.kw KW)
     try (replace y := y.kw KW)
     try (replace od := od.kw KW)
     try (replace yd := yd.kw KW)
     replace x1 : Bx 34 ((WC).setCell ⟨gx1, 0, none⟩ (.bool (Wd.ngb c.num))) (gx1) [.bool (Wd.ngb c.num), .slice none 0 0, .slice none 0 0] := x1.set 0 (.bool (Wd.ngb c.num))
     replace UP := UP.setCell (p := ⟨gx1, 0, none⟩) (by dsimp only; omega) (.bool (Wd.ngb c.num))
     have KW : Kw (((WC).setCell ⟨gx1, 0, none⟩ (.bool (Wd.ngb c.num)))) ((((WC).setCell ⟨gx1, 0, none⟩ (.bool (Wd.ngb c.num)))).setCell ⟨gx1, 1, none⟩ (.slice Ay ny cy)) := Kw.store (c := (.slice none 0 0)) x1 rfl trivial _
     replace FX := FX.kw KW
     try (replace o := o.kw KW)
     try (replace y := y.kw KW)
     try (replace od := od.kw KW)
     try (replace yd := yd.kw KW)
     replace x1 : Bx 34 ((((WC).setCell ⟨gx1, 0, none⟩ (.bool (Wd.ngb c.num)))).setCell ⟨gx1, 1, none⟩ (.slice Ay ny cy)) (gx1) [.bool (Wd.ngb c.num), .slice Ay ny cy, .slice none 0 0] := x1.set 1 (.slice Ay ny cy)
     replace UP := UP.setCell (p := ⟨gx1, 1, none⟩) (by dsimp only; omega) (.slice Ay ny cy)
     have KW : Kw (((((WC).setCell ⟨gx1, 0, none⟩ (.bool (Wd.ngb c.num)))).setCell ⟨gx1, 1, none⟩ (.slice Ay ny cy))) ((((((WC).setCell ⟨gx1, 0, none⟩ (.bool (Wd.ngb c.num)))).setCell ⟨gx1, 1, none⟩ (.slice Ay ny cy))).setCell ⟨gx1, 2, none⟩ (.slice Ayd nyd cyd)) := Kw.store (c := (.slice none 0 0)) x1 rfl trivial _
     replace FX := FX.kw KW
     try (replace o := o.kw KW)
     try (replace y := y.kw KW)
     try (replace od := od.kw KW)
     try (replace yd := yd.kw KW)
     replace x1 : Bx 34 ((((((WC).setCell ⟨gx1, 0, none⟩ (.bool (Wd.ngb c.num)))).setCell ⟨gx1, 1, none⟩ (.slice Ay ny cy))).setCell ⟨gx1, 2, none⟩ (.slice Ayd nyd cyd)) (gx1) [.bool (Wd.ngb c.num), .slice Ay ny cy, .slice Ayd nyd cyd] := x1.set 2 (.slice Ayd nyd cyd)
     replace UP := UP.setCell (p := ⟨gx1, 2, none⟩) (by dsimp only; omega) (.slice Ayd nyd cyd)
     clear KW
     generalize ((((((WC).setCell ⟨gx1, 0, none⟩ (.bool (Wd.ngb c.num)))).setCell ⟨gx1, 1, none⟩ (.slice Ay ny cy))).setCell ⟨gx1, 2, none⟩ (.slice Ayd nyd cyd)) = WD at *
     obtain ⟨WC, hWC⟩ : ∃ W, W = WD := ⟨_, rfl⟩
     subst hWC
     refine hK.out _ _ (by exact ⟨UP, HOLD.out _ UP⟩) (fun hHeld => ?_)
     clear hK K
     try simp only [List.getElem_toArray, List.getElem_cons_zero, List.getElem_cons_succ, Act.put, List.setIfInBounds_toArray, List.set_cons_zero, List.set_cons_succ])
  | (have hK := hK13
     clear hK13
     (try clear hHeld)
     go_simp
     refine hK.out _ _ (by exact ⟨UP, HOLD.out _ UP⟩) (fun hHeld => ?_)
     clear hK K
     try simp only [List.getElem_toArray, List.getElem_cons_zero, List.getElem_cons_succ, Act.put, List.setIfInBounds_toArray, List.set_cons_zero, List.set_cons_succ])
  | refine wpAnyH_done (by decide +kernel) (NoPanic.normal ?_) _
  | fail
 all_goals try clear hHeld
 all_goals obtain ⟨x1_0, x1_1, x1_2⟩ := x1.c3
 all_goals
  go_wp2_with fail
  ((with_reducible refine (poly_scale ((qw_of y yd).fr LC) (HH.out.up UP).sq (by omega) (by omega) (by omega)).mono ?_))
  rintro e W9 ⟨V9, rfl, R9, u9⟩
  rw [HNM.out] at R9
  have F9 := Lib.hid ((R9.re HLM.out).weaken UP)
  have U9 := Lib.hid (UP.trans u9)
  clear R9 u9
  go_wp2
  go_ret
  exact ⟨_, rfl, F9.out, U9.out⟩

def lenV : Value → Nat
 | .slice _ n _ => n
 | _ => 0
/-- What comes back: the common divisor. -/
def RetG (K : Nat) (x y : List Rat) (w : World) (e : Ending) (w' : World) : Prop := ∃ V g, e = .returned V ∧ PRow K w w' V g ∧ Pq.IsGcd x y g ∧ Pq.Lp g K ∧ g.length ≤ max x.length y.length ∧ Up w w'
set_option maxRecDepth 100000 in
set_option maxHeartbeats 6400000 in
theorem poly_gcd {v u : Value} {x y : List Rat} {ka kb jx jy m K : Nat} {w : World} (h : FSq ka w v x) (h2 : FSq kb w u y) (hx : x.length ≤ m) (hy : y.length ≤ m) (hm : m ≤ 10000) (LX : Pq.Lp x jx) (LY : Pq.Lp y jy) (HK : Hid (∀ n, (∀ i, i < n → (Pq.gst x y i).2 ≠ []) → Pq.Lp (Pq.gst x y n).1 K ∧ Pq.Lp (Pq.gst x y n).2 K)) (hK : 2 * K + (m + 1) * (K + 1) ≤ 3000000) (hka : ka ≤ 2000000) (hkb : kb ≤ 2000000) :
 Calls Tryz.prog 46 #[v, u] w (RetG K x y w) := by
 have HLM : Hid (max x.length y.length ≤ m) := Lib.hid (by omega)
 have HS : Hid (∀ n, (∀ i, i < n → (Pq.gst x y i).2 ≠ []) → (Pq.gst x y n).1.length ≤ max x.length y.length ∧ (Pq.gst x y n).2.length ≤ max x.length y.length) := Lib.hid (fun n hn => Pq.gst_len x y (by omega) (by omega) n hn)
 have HMO := Lib.hid (Pq.gst_mo x y)
 have HSP := Lib.hid (Pq.gst_span x y)
 have hK2 : K ≤ 3000000 := by
  have : K ≤ 2 * K := by omega
  omega
 have lx9 : (Pq.nm x).length ≤ 10000 := Nat.le_trans (Pq.nm_len x) (by omega)
 have ly9 : (Pq.nm y).length ≤ 10000 := Nat.le_trans (Pq.nm_len y) (by omega)
 have LXN := Lib.hid LX.nm
 have LYN := Lib.hid LY.nm
 have HG0 : Hid (Pq.mo (Pq.nm x) = (Pq.gst x y 0).1 ∧ Pq.mo (Pq.nm y) = (Pq.gst x y 0).2) := Lib.hid ⟨rfl, rfl⟩
 have HG1 : Hid (∀ n, Pq.mo (Pq.dr (Pq.gst x y n).1 (Pq.gst x y n).2) = (Pq.gst x y (n + 1)).2 ∧ (Pq.gst x y n).2 = (Pq.gst x y (n + 1)).1) := Lib.hid (fun n => ⟨rfl, rfl⟩)
 have L0 := Lib.hid (HK.out 0 (fun i hi => absurd hi (Nat.not_lt_zero _)))
 have TX := Lib.hid (Pq.tr_nm x)
 have TY := Lib.hid (Pq.tr_nm y)
 obtain ⟨A, cp, rfl⟩ := h.form
 obtain ⟨B, cq, rfl⟩ := h2.form
 have H2 := Lib.hid h2
 have hxs : x.length ≤ 100000000 := by omega
 have hys : y.length ≤ 100000000 := by omega
 clear LX LY
 go_enter Tryz.func46, Tryz.ntmps46
 go_wp2_with fail
 refine (poly_norm h.sq hxs (by omega)).mono ?_
 rintro e w1 ⟨V1, rfl, R1, u1⟩
 have F1 := R1.fs
 obtain ⟨A1, c1, rfl⟩ := R1.form
 clear R1 h h2
 go_wp2_with fail
 refine (poly_monic F1 lx9 TX.out LXN.out (by omega)).mono ?_
 rintro e w2 ⟨V2, rfl, R2, u2⟩
 have U2 := u1.trans u2
 have P2 := (R2.weaken u1).re (k := K) (by rw [HG0.out.1]; exact L0.out.1.lq)
 obtain ⟨A2, c2, rfl⟩ := R2.form
 clear R2 F1 u1 u2
 go_wp2_with fail
 refine (poly_norm (H2.out.up U2).sq hys (by omega)).mono ?_
 rintro e w3 ⟨V3, rfl, R3, u3⟩
 have F3 := R3.fs
 have P2 := P2.up u3
 have U3 := U2.trans u3
 obtain ⟨A3, c3, rfl⟩ := R3.form
 clear R3 u3 U2
 go_wp2_with fail
 refine (poly_monic F3 ly9 TY.out LYN.out (by omega)).mono ?_
 rintro e w4 ⟨V4, rfl, R4, u4⟩
 have P4 := (R4.weaken U3).re (k := K) (by rw [HG0.out.2]; exact L0.out.2.lq)
 have P2 := P2.up u4
 have U4 := U3.trans u4
 obtain ⟨A4, c4, rfl⟩ := R4.form
 rw [HG0.out.1] at P2 ⊢
 rw [HG0.out.2] at P4 ⊢
 clear R4 F3 u4 U3
 have HP2 := Lib.hid P2
 have HP4 := Lib.hid P4
 have HU4 := Lib.hid U4
 clear P2 P4 U4
 go_wp2_with fail
 go_loopw [0, 1, 5, 6, 7] (fun s0 s1 _ _ _ wr => ∃ n : Nat, Hid (∀ i, i < n → (Pq.gst x y i).2 ≠ []) ∧ PRow K w wr s0 (Pq.gst x y n).1 ∧ PRow K w wr s1 (Pq.gst x y n).2 ∧ Up w wr) (fun _ s1 _ _ _ _ => lenV s1)
 case atStart => exact ⟨0, Lib.hid (fun i hi => absurd hi (Nat.not_lt_zero _)), HP2.out, HP4.out, HU4.out⟩
 case round =>
  clear HP2 HP4 HU4
  obtain ⟨n, HN, MA, MB, UP⟩ := hrel
  have LN := HK.out n HN.out
  have SN := HS.out n HN.out
  have TN := HMO.out n
  obtain ⟨A5, c5, rfl⟩ := MA.form
  obtain ⟨B5, d5, rfl⟩ := MB.form
  by_cases h0 : (Pq.gst x y n).2 = []
  · have e0 : (Pq.gst x y n).2.length = 0 := by rw [h0]; rfl
    have HSPN : Hid (Pq.IsGcd x y (Pq.gst x y n).1) := Lib.hid (Pq.IsGcd.of_span (by have := HSP.out n HN.out; rwa [h0] at this) TN.1)
    have HMA := Lib.hid MA
    have HLN := Lib.hid LN.1
    have HSN := Lib.hid SN.1
    clear MA MB LN SN TN h0
    go_wp2
    go_ret
    exact ⟨_, _, rfl, HMA.out, HSPN.out, HLN.out, HSN.out, UP⟩
  · have HN1 : Hid (∀ i, i < n + 1 → (Pq.gst x y i).2 ≠ []) := Lib.hid (fun i hi => by
     rcases Nat.lt_or_ge i n with hh | hh
     · exact HN.out i hh
     · obtain rfl : i = n := by omega
       exact h0)
    have h1 : 1 ≤ (Pq.gst x y n).2.length := List.length_pos_iff.2 h0
    have HLS := Lib.hid (Pq.gst_less h0)
    have LN1 := Lib.hid (HK.out (n + 1) HN1.out).2.lq
    obtain ⟨HE1, HE2⟩ := HG1.out n
    have hm1 : (Pq.gst x y n).1.length ≤ m := by have := HLM.out; omega
    have hm2 : (Pq.gst x y n).2.length ≤ m := by have := HLM.out; omega
    have hb1 : Hid (K + K + ((Pq.gst x y n).1.length + 1) * (K + 1) ≤ 3000000) := Lib.hid (by
     have : ((Pq.gst x y n).1.length + 1) * (K + 1) ≤ (m + 1) * (K + 1) := Nat.mul_le_mul_right _ (by omega)
     omega)
    have HTR := Lib.hid (Pq.dr_tr (Pq.gst x y n).1 (Pq.gst x y n).2)
    have HDS := Lib.hid (Pq.dqr_size LN.1 LN.2).2
    have HDL : Hid ((Pq.dr (Pq.gst x y n).1 (Pq.gst x y n).2).length ≤ 10000) := Lib.hid (by
     have := HLS.out
     rw [← HE1, Pq.mo_len] at this
     omega)
    clear h0 SN TN HN
    have H1E := Lib.hid HE1
    have H2E := Lib.hid HE2
    clear HE1 HE2
    have HLNs := Lib.hid LN
    clear LN
    have FA := MA.fs
    have FB := MB.fs
    have HMB := Lib.hid MB
    clear MA MB
    generalize (Pq.gst x y n).1 = a at *
    generalize (Pq.gst x y n).2 = b at *
    go_wp2_with fail
    refine (poly_div FA FB (by omega) (by omega) HLNs.out.1 HLNs.out.2 hb1.out (by omega) (by omega) (by omega)).mono ?_
    rintro e w5 ⟨V5, R5, rfl, Q5, S5, u5⟩
    obtain ⟨A6, c6, rfl⟩ := Q5.form
    obtain ⟨A7, c7, rfl⟩ := S5.form
    have F5 := S5.fs
    have U5 := UP.trans u5
    have HMB2 := Lib.hid (HMB.out.up u5)
    clear Q5 S5 u5 FA FB HMB
    go_wp2_with fail
    refine (poly_monic F5 HDL.out HTR.out HDS.out (by omega)).mono ?_
    rintro e w6 ⟨V6, rfl, R6, u6⟩
    rw [H1E.out] at R6
    have R7 := Lib.hid ((R6.weaken U5).re LN1.out)
    have HMB3 : Hid (PRow K w w6 (.slice B5 b.length d5) (Pq.gst x y (n + 1)).1) := Lib.hid (by rw [← H2E.out]; exact HMB2.out.up u6)
    have U6 := Lib.hid (U5.trans u6)
    obtain ⟨A8, c8, rfl⟩ := R6.form
    clear R6 u6 U5 F5 HMB2
    go_wp2_with fail
    go_roundw
    case rel => exact ⟨n + 1, HN1, HMB3.out, R7.out, U6.out⟩
    case measure => exact HLS.out
end Go.Proofs.YtmmcffceeahemaaGreat
