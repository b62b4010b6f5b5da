/-
  Polynomials, plain: the common divisor as the document goes to it: the rests are multiples of the right ones.
  Layer 14, the document's answers: the common divisor.
-/
import Derived.Test.YtmmcffceeahemaaGreatZtRefDivMath2
import Derived.Test.YtmmcffceeahemaaGreatZtShort
import Derived.Test.YtmmcffceeahemaaGreatZtRefPoly6
set_option linter.unusedVariables false
set_option linter.unusedSimpArgs false
namespace Pq
theorem sc_sc (c d : Rat) (p : List Rat) : sc c (sc d p) = sc (c * d) p := by
 unfold sc
 rw [List.map_map]
 exact List.map_congr_left fun q _ => (Rat.mul_assoc ..).symm
theorem sc_nil_iff {c : Rat} {p : List Rat} : sc c p = [] ↔ p = [] := by unfold sc; exact List.map_eq_nil_iff
theorem sc_tr {c : Rat} {p : List Rat} (hc : c ≠ 0) (h : Tr p) : Tr (sc c p) := by
 rcases h with rfl | h
 · exact .inl rfl
 · refine .inr ?_
   rw [sc_len, sc_getD]
   exact fun e => (Rat.mul_eq_zero.1 e).elim hc h
/-- The highest one, or 1 where there is none. -/
def top (p : List Rat) : Rat := if p = [] then 1 else p.getD (p.length - 1) 0
theorem top_nz {p : List Rat} (h : Tr p) : top p ≠ 0 := by
 unfold top
 split
 · decide
 · next hn => exact h.elim (fun k => absurd k hn) id
theorem top_mo {p : List Rat} (h : Tr p) : sc (top p) (mo p) = p := by
 have hz := top_nz h
 by_cases hn : p = []
 · subst hn; rfl
 · have e : top p = p.getD (p.length - 1) 0 := by unfold top; rw [if_neg hn]
   unfold mo
   rw [← e, sc_sc, Rat.div_def, Rat.one_mul, Rat.mul_inv_cancel _ hz, sc_one]
theorem top_lq {p : List Rat} {k : Nat} (h : Lp p k) : Wd.Lq (top p) k := by
 unfold top
 split
 · have c1 : Cm 1 1 1 := ⟨1, by simp, by decide⟩
   exact (c1.lq (k := 1) (by omega) (by rw [Nat.pow_one]; have := B2; omega) (by rw [Nat.pow_one]; have := B2; omega) (by omega)).mono h.one_le
 · next hn =>
   have := List.length_pos_iff.2 hn
   rw [getD_at (by omega : p.length - 1 < p.length)]
   exact h.lq _ (List.getElem_mem _)
theorem ln_sc {c : Rat} (hc : c ≠ 0) (p : List Rat) : ln (sc c p) = ln p := by
 have h1 := ln_sc_le c p
 have h2 := ln_sc_le c⁻¹ (sc c p)
 rw [sc_sc, Rat.inv_mul_cancel _ hc, sc_one] at h2
 omega
theorem dr_scs {a b : List Rat} {k l : Rat} (hk : k ≠ 0) (hl : l ≠ 0) (hb : nm b ≠ []) : dr (sc k a) (sc l b) = sc k (dr a b) := by
 have hb2 : nm (sc l b) ≠ [] := fun e => by
  have h1 := ln_sc hl b
  have h2 := ln_pos hb
  rw [ln_nil e] at h1
  omega
 have h1 := dqr_div (p := a) (q := b) hb
 have h2 := dqr_div (p := sc k a) (q := sc l b) hb2
 have h3 : IsDiv (sc k a) (sc l b) (sc (k * l⁻¹) (dq a b)) (sc k (dr a b)) := by
  refine ⟨fun x => ?_, ?_⟩
  · rw [E_sc, E_sc, E_sc, E_sc, h1.1 x]
    have : l⁻¹ * l = 1 := Rat.inv_mul_cancel _ hl
    grind
  · have e1 := ln_sc hk (dr a b)
    have e2 := ln_sc hl b
    have := h1.2
    unfold ln at e1 e2
    omega
 have := (IsDiv.unique h2 h3).2
 rwa [nm_of_tr (dr_tr _ _), nm_of_tr (sc_tr hk (dr_tr _ _))] at this
/-- Both, behind so many rounds, with what they are multiplied by. -/
def Gk (x y : List Rat) (D m n : Nat) (X Y : List Rat) : Prop := (∀ i, i < n → (gst x y i).2 ≠ []) ∧ n + Y.length ≤ m ∧ ∃ k l, k ≠ 0 ∧ l ≠ 0 ∧ X = sc k (gst x y n).1 ∧ Y = sc l (gst x y n).2 ∧ Wd.Lq k (D * (n + 1)) ∧ Wd.Lq l (D * (n + 1))
theorem Gk.start {x y : List Rat} {j D m : Nat} (hx : Lp x j) (hy : Lp y j) (hD : j ≤ D) (hm : y.length ≤ m) : Gk x y D m 0 (nm x) (nm y) := by
 refine ⟨fun i hi => absurd hi (Nat.not_lt_zero _), by have := nm_len y; omega, top (nm x), top (nm y), top_nz (tr_nm x), top_nz (tr_nm y), (top_mo (tr_nm x)).symm, (top_mo (tr_nm y)).symm, (top_lq hx.nm).mono (by omega), (top_lq hy.nm).mono (by omega)⟩
theorem Gk.tr {x y X Y : List Rat} {D m n : Nat} (h : Gk x y D m n X Y) : Tr X ∧ Tr Y := by
 obtain ⟨_, _, k, l, hk, hl, rfl, rfl, _, _⟩ := h
 exact ⟨sc_tr hk (gst_mo x y n).1.tr, sc_tr hl (gst_mo x y n).2.tr⟩
theorem Gk.len {x y X Y : List Rat} {D m n : Nat} (hx : x.length ≤ m) (hy : y.length ≤ m) (h : Gk x y D m n X Y) : X.length ≤ m ∧ Y.length ≤ m := by
 obtain ⟨h1, _, k, l, hk, hl, rfl, rfl, _, _⟩ := h
 rw [sc_len, sc_len]
 exact gst_len x y hx hy n h1
theorem Gk.size {x y X Y : List Rat} {D m n K : Nat} (HK : ∀ n, (∀ i, i < n → (gst x y i).2 ≠ []) → Lp (gst x y n).1 K ∧ Lp (gst x y n).2 K) (h : Gk x y D m n X Y) : Lp X (D * (m + 1) + K) ∧ Lp Y (D * (m + 1) + K) := by
 obtain ⟨h1, h2, k, l, hk, hl, rfl, rfl, h3, h4⟩ := h
 have hm : D * (n + 1) ≤ D * (m + 1) := Nat.mul_le_mul_left _ (by omega)
 exact ⟨(Lp.sc h3 (HK n h1).1).mono (by omega), (Lp.sc h4 (HK n h1).2).mono (by omega)⟩
theorem Gk.round {x y X Y : List Rat} {D m n K : Nat} (hx : x.length ≤ m) (hy : y.length ≤ m) (HK : ∀ n, (∀ i, i < n → (gst x y i).2 ≠ []) → Lp (gst x y n).1 K ∧ Lp (gst x y n).2 K) (hD : K + (m + 1) * (K + 1) ≤ D) (h : Gk x y D m n X Y) (hne : Y ≠ []) : Gk x y D m (n + 1) Y (dr X Y) ∧ (dr X Y).length < Y.length := by
 have hlen := h.len hx hy
 obtain ⟨h1, h2, k, l, hk, hl, rfl, rfl, h3, h4⟩ := h
 have hn2 : (gst x y n).2 ≠ [] := fun e => hne (by rw [e]; rfl)
 have hmo := gst_mo x y n
 have hb : nm (gst x y n).2 ≠ [] := by rw [nm_of_tr hmo.2.tr]; exact hn2
 have hn1 : ∀ i, i < n + 1 → (gst x y i).2 ≠ [] := fun i hi => by
  rcases Nat.lt_or_ge i n with hh | hh
  · exact h1 i hh
  · obtain rfl : i = n := by omega
    exact hn2
 have e1 := dr_scs (a := (gst x y n).1) hk hl hb
 have e2 := top_mo (dr_tr (gst x y n).1 (gst x y n).2)
 have hs := dr_size (HK n h1).1 (HK n h1).2 hmo.1.tr hmo.2.tr hn2
 have hlt : (sc k (dr (gst x y n).1 (gst x y n).2)).length < (sc l (gst x y n).2).length := by
  have := gst_less hn2
  rw [sc_len, sc_len, ← mo_len]
  exact this
 have ht : Wd.Lq (top (dr (gst x y n).1 (gst x y n).2)) D := (top_lq hs).mono (by
  have : ((gst x y n).1.length - (gst x y n).2.length + 1) * (K + 1) ≤ (m + 1) * (K + 1) := Nat.mul_le_mul_right _ (by have := hlen.1; rw [sc_len] at this; omega)
  omega)
 rw [e1]
 refine ⟨⟨hn1, by omega, l, k * top (dr (gst x y n).1 (gst x y n).2), hl, fun e => (Rat.mul_eq_zero.1 e).elim hk (top_nz (dr_tr _ _)), rfl, ?_, h4.mono (Nat.mul_le_mul_left _ (by omega)), (h3.mul ht).mono (by rw [Nat.mul_succ D (n + 1)]; omega)⟩, hlt⟩
 show sc k (dr (gst x y n).1 (gst x y n).2) = sc (k * top (dr (gst x y n).1 (gst x y n).2)) (mo (dr (gst x y n).1 (gst x y n).2))
 rw [← sc_sc, e2]
/-- What comes back. -/
theorem Gk.fin {x y X : List Rat} {D m n : Nat} (h : Gk x y D m n X []) : IsGcd x y (gst x y n).1 ∧ (X = [] → (gst x y n).1 = []) ∧ (X ≠ [] → nm (sc (1 / X.getD (X.length - 1) 0) X) = (gst x y n).1) := by
 obtain ⟨h1, h2, k, l, hk, hl, rfl, e, h3, h4⟩ := h
 have hmo := gst_mo x y n
 have h0 : (gst x y n).2 = [] := sc_nil_iff.1 e.symm
 refine ⟨IsGcd.of_span (by have := gst_span x y n h1; rwa [h0] at this) hmo.1, fun e => sc_nil_iff.1 e, fun hn => ?_⟩
 have hn1 : (gst x y n).1 ≠ [] := fun e => hn (by rw [e]; rfl)
 have ht : (gst x y n).1.getD ((gst x y n).1.length - 1) 0 = 1 := hmo.1.elim (fun k => absurd k hn1) id
 rw [sc_len, sc_getD, ht, Rat.mul_one, sc_sc, Rat.div_def, Rat.one_mul, Rat.inv_mul_cancel _ hk, sc_one, nm_of_tr hmo.1.tr]
end Pq
namespace Go.Proofs.YtmmcffceeahemaaGreat
open Go.RowKit
theorem ref9_int1g (w : World) : Calls Tryz.prog 65 #[.int .i64 1] w (RetQ 1 w) := ref9_int (n := 1) (by omega) w
theorem Qk.of {k : Nat} {w : World} {v : Value} {q : Rat} (h : Qw w v q) (hk : Wd.Lq q k) : Qk k w v q := ⟨h, hk⟩
/-- What comes back: the common divisor. -/
def RetGQ (K : Nat) (x y : List Rat) (w : World) (e : Ending) (w' : World) : Prop := ∃ V g, e = .returned V ∧ QRow K w w' V g ∧ Pq.IsGcd x y g ∧ Up w w'
set_option maxRecDepth 100000 in
set_option maxHeartbeats 12800000 in
theorem ref_gcd14 {v u : Value} {x y : List Rat} {ka kb j m D K Z : Nat} {w : World} (h : QSq ka w v x) (h2 : QSq kb w u y) (hx : x.length ≤ m) (hy : y.length ≤ m) (hm : m ≤ 299) (LX : Pq.Lp x j) (LY : Pq.Lp y j) (hjD : j ≤ D) (HK : Hid (∀ n, (∀ i, i < n → (Pq.gst x y i).2 ≠ []) → Pq.Lp (Pq.gst x y n).1 K ∧ Pq.Lp (Pq.gst x y n).2 K)) (hD : K + (m + 1) * (K + 1) ≤ D) (hZ : D * (m + 1) + K = Z) (hZZ : Z + Z + (m + 1) * (Z + 1) + Z + Z + 10 ≤ 2400000) (hka : ka ≤ Z) (hkb : kb ≤ Z) :
 Calls Tryz.prog 47 #[v, u] w (RetGQ K x y w) := by
 have HST := Lib.hid (Pq.Gk.start (m := m) LX LY hjD hy)
 have HTR : Hid (∀ n X Y, Pq.Gk x y D m n X Y → Pq.Tr X ∧ Pq.Tr Y) := Lib.hid (fun n X Y h => h.tr)
 have HLE : Hid (∀ n X Y, Pq.Gk x y D m n X Y → X.length ≤ m ∧ Y.length ≤ m) := Lib.hid (fun n X Y h => h.len hx hy)
 have HSZ : Hid (∀ n X Y, Pq.Gk x y D m n X Y → Pq.Lp X Z ∧ Pq.Lp Y Z) := Lib.hid (fun n X Y h => by have := h.size HK.out; rwa [hZ] at this)
 have HRD : Hid (∀ n X Y, Pq.Gk x y D m n X Y → Y ≠ [] → Pq.Gk x y D m (n + 1) Y (Pq.dr X Y) ∧ (Pq.dr X Y).length < Y.length) := Lib.hid (fun n X Y h hne => h.round hx hy HK.out hD hne)
 have HFI : Hid (∀ n X, Pq.Gk x y D m n X [] → Pq.IsGcd x y (Pq.gst x y n).1 ∧ (X = [] → (Pq.gst x y n).1 = []) ∧ (X ≠ [] → Pq.nm (Pq.sc (1 / X.getD (X.length - 1) 0) X) = (Pq.gst x y n).1)) := Lib.hid (fun n X h => h.fin)
 have HGK : Hid (∀ n, (∀ i, i < n → (Pq.gst x y i).2 ≠ []) → ∀ q ∈ (Pq.gst x y n).1, Wd.Lq q K) := Lib.hid (fun n hn => (HK.out n hn).1.lq)
 have HLQX : Hid (∀ q ∈ Pq.nm x, Wd.Lq q Z) := Lib.hid (fun q hq => (h.lq q (Pq.nm_mem hq)).mono hka)
 have HLQY : Hid (∀ q ∈ Pq.nm y, Wd.Lq q Z) := Lib.hid (fun q hq => (h2.lq q (Pq.nm_mem hq)).mono hkb)
 have hZ9 : Z ≤ 2400000 := by omega
 have HDI : Hid (∀ l, l ≤ m → Z + Z + (l + 1) * (Z + 1) ≤ Z + Z + (m + 1) * (Z + 1)) := Lib.hid (fun l hl => by
  have : (l + 1) * (Z + 1) ≤ (m + 1) * (Z + 1) := Nat.mul_le_mul_right _ (by omega)
  omega)
 obtain ⟨Z2, hZ2⟩ : ∃ Z2, Z2 = Z + Z + (m + 1) * (Z + 1) := ⟨_, rfl⟩
 rw [← hZ2] at hZZ HDI
 have hz3 : Z ≤ Z2 := by omega
 obtain ⟨A, cv, rfl⟩ := h.form
 obtain ⟨B, cu, rfl⟩ := h2.form
 have H := Lib.hid h
 have H2 := Lib.hid h2
 clear h h2 LX LY hD hZ hZ2 HK
 go_enter Tryz.func47, Tryz.ntmps47
 go_wp2_with fail
 ((with_reducible refine (rnorm_as H.out (by omega) (by omega) (Lib.hid rfl)).mono ?_))
 rintro e W1 ⟨V1, rfl, R1, u1⟩
 have R1 := QRow.re (k := Z) R1 HLQX.out
 go_wp2_with fail
 ((with_reducible refine (rnorm_as (H2.out.up u1) (by omega) (by omega) (Lib.hid rfl)).mono ?_))
 rintro e W2 ⟨V2, rfl, R2, u2⟩
 have R2 := QRow.re (k := Z) R2 HLQY.out
 have HR1 := Lib.hid (R1.up u2)
 have HR2 := Lib.hid (R2.weaken u1)
 have HU := Lib.hid (u1.trans u2)
 clear R1 R2 u1 u2
 go_wp2_with fail
 go_loopw [5, 6, 7, 8] (fun s5 s6 _ _ wr => ∃ (n : Nat) (X Y : List Rat), Hid (Pq.Gk x y D m n X Y) ∧ QRow Z w wr s5 X ∧ QRow Z w wr s6 Y ∧ Up w wr) (fun _ s6 _ _ _ => lenV s6)
 case atStart => exact ⟨0, _, _, HST, HR1.out, HR2.out, HU.out⟩
 case round =>
  clear HR1 HR2 HU HST
  obtain ⟨n, X, Y, HG, MX, MY, UP⟩ := hrel
  obtain ⟨D5, d5, rfl⟩ := MX.form
  obtain ⟨D6, d6, rfl⟩ := MY.form
  have LEN := HLE.out n X Y HG.out
  have SZ := HSZ.out n X Y HG.out
  have TR := HTR.out n X Y HG.out
  by_cases h0 : Y = []
  · subst h0
    obtain ⟨F1, F2, F3⟩ := HFI.out n X HG.out
    have F1 := Lib.hid F1
    have LG := Lib.hid (HGK.out n HG.out.1)
    have lx := LEN.1
    have LXX := Lib.hid SZ.1.lq
    clear LEN SZ TR
    by_cases hX : X = []
    · have hl0 : X.length = 0 := by rw [hX]; rfl
      have HE := Lib.hid (hX.trans (F2 hX).symm)
      have hx0 : ((X.length : Int) == 0) = true := by simp [hl0]
      clear hX F2 F3
      go_wp2
      go_ret
      exact ⟨_, _, rfl, (MX.own_q HE.out).re LG.out, F1.out, UP⟩
    · have hl0 : 1 ≤ X.length := List.length_pos_iff.2 hX
      have HE := Lib.hid (F3 hX)
      have hx0 : ((X.length : Int) == 0) = false := by simp [hX]
      clear hX F2 F3
      have hr1 : X.length - 1 < X.length := by omega
      obtain ⟨b1, o1, s1, B1, x1, f1, D1, y1, z1, e1, hb1', g1, g2, g3, FX0⟩ := Sq.at_ (kp_qk Z) MX.q.sq hr1
      subst e1
      have FX : Qk Z wr (.agg #[.bool s1, .slice B1 x1 f1, .slice D1 y1 z1]) X[X.length - 1] := FX0
      have LT := LXX.out _ (List.getElem_mem hr1)
      have hat : X.getD (X.length - 1) 0 = X[X.length - 1] := Pq.getD_at hr1
      rw [hat] at HE
      clear hat FX0
      have hw1 : IntKind.i64.wrap ((X.length : Int) - 1) = ((X.length - 1 : Nat) : Int) := by rw [IntKind.wrap_i64]; omega
      have q1 : ((X.length - 1 : Nat) : Int) < (X.length : Int) := by omega
      have q3 : (0 : Int) ≤ ((X.length - 1 : Nat) : Int) := by omega
      have q5 : (((X.length - 1 : Nat) : Int)).toNat = X.length - 1 := by omega
      have FXw := FX.qw
      clear FX
      generalize X[X.length - 1] = t at *
      generalize X.length - 1 = ir at *
      obtain ⟨c, HC⟩ : ∃ c, Hid (1 / t = c) := ⟨_, Lib.hid rfl⟩
      have L1 : Wd.Lq (1 : Rat) 2 := lq_int (n := 1) (by omega)
      have LC : Wd.Lq c (2 + Z) := by rw [← HC.out]; exact L1.div LT
      rw [HC.out] at HE
      obtain ⟨g, HGG⟩ : ∃ g, Hid ((Pq.gst x y n).1 = g) := ⟨_, Lib.hid rfl⟩
      rw [HGG.out] at HE F1 LG
      have HOLD : Hid (∀ w', Up wr w' → w'.cell? ⟨b1, o1 + ir * 3, none⟩ = some (.bool s1) ∧ w'.cell? ⟨b1, o1 + ir * 3 + 1, none⟩ = some (.slice B1 x1 f1) ∧ w'.cell? ⟨b1, o1 + ir * 3 + 2, none⟩ = some (.slice D1 y1 z1)) := Lib.hid (fun w' up => ⟨up.keeps g1, up.keeps g2, up.keeps g3⟩)
      clear g1 g2 g3
      have HMX := Lib.hid MX
      have HUP := Lib.hid UP
      clear MX MY UP
      have UP : Up wr wr := Up.refl wr
      go_wp2_with fail
      refine li2 (Up.refl wr).drew FXw UP ?_; clear FXw UP; intro FXw UP
      refine wp_region_noPanic ?_
      refine wp_region_held_drew (S := fun w' => Up wr w' ∧ w'.cell? ⟨b1, o1 + ir * 3, none⟩ = some (.bool s1) ∧ w'.cell? ⟨b1, o1 + ir * 3 + 1, none⟩ = some (.slice B1 x1 f1) ∧ w'.cell? ⟨b1, o1 + ir * 3 + 2, none⟩ = some (.slice D1 y1 z1)) (by kernel_rfl) ?_ (fun hHeld => ?_)
      · exact ⟨UP, HOLD.out _ UP⟩
      refine tk 1 ?_
      try simp only [gs, Act.put]
      refine tk 2 ?_
      try simp only [gs, Act.put]
      refine tk 3 ?_
      try simp only [gs, Act.put]
      refine tk 4 ?_
      try simp only [gs, Act.put]
      refine tk 5 ?_
      try simp only [gs, Act.put]
      refine tk 6 ?_
      try simp only [gs, Act.put]
      refine tk 8 ?_
      try simp only [gs, Act.put]
      refine rd 0 (fun K hK => ?_)
      go_simp
      (first
        | (go_at_call 65
           ((with_reducible refine (ref9_int1g _).mono ?_))
           rintro e W1 ⟨V1, rfl, o, u1⟩
           revert FXw UP; refine lg2 u1 ?_; intro FXw UP
           try (replace o := o.up u1)
           try (replace y := y.up u1)
           try (replace z := z.up u1)
           clear u1))
      try go_wp2_with fail
      try clear hHeld
      refine hK.out _ _ ?_ (fun hHeld => ?_)
      · exact ⟨UP, HOLD.out _ UP⟩
      clear hK K
      try simp only [gs, Act.put]
      refine rd 7 (fun K hK => ?_)
      go_simp
      (first
        | (go_at_call 100
           ((with_reducible refine (ref9_quo o FXw L1 LT (by omega) (by omega)).mono ?_))
           rintro e W2 ⟨V2, rfl, y, u2⟩
           revert FXw UP; refine lg2 u2 ?_; intro FXw UP
           try (replace o := o.up u2)
           try (replace y := y.up u2)
           try (replace z := z.up u2)
           clear u2
           rw [HC.out] at y
           have HUQ := Lib.hid (HUP.out.trans UP)))
      try go_wp2_with fail
      try clear hHeld
      refine hK.out _ _ ?_ (fun hHeld => ?_)
      · exact ⟨UP, HOLD.out _ UP⟩
      clear hK K
      try simp only [gs, Act.put]
      refine rd 9 (fun K hK => ?_)
      go_simp
      (first
        | (go_at_call 42
           ((with_reducible refine (ref_scale14 (Qk.of y LC) ((HMX.out.up UP).q) (by omega) (by omega) (by omega) HE LG).mono ?_))
           rintro e W3 ⟨V3, rfl, z, u3⟩
           obtain ⟨Az, cz, rfl⟩ := z.form
           revert FXw UP; refine lg2 u3 ?_; intro FXw UP
           try (replace o := o.up u3)
           try (replace y := y.up u3)
           try (replace z := z.up u3)
           clear u3
           replace z := z.weaken HUQ.out))
      try go_wp2_with fail
      try clear hHeld
      refine hK.out _ _ ?_ (fun hHeld => ?_)
      · exact ⟨UP, HOLD.out _ UP⟩
      clear hK K
      try simp only [gs, Act.put]
      refine tk 10 ?_
      try simp only [gs, Act.put]
      refine wpAnyH_done (by kernel_rfl) ?_ _
      refine NoPanic.normal ?_
      all_goals
       go_wp2
       go_ret
       exact ⟨_, _, rfl, z, F1.out, HUP.out.trans UP⟩
  · have h1 : 1 ≤ Y.length := List.length_pos_iff.2 h0
    have k1 : (Y.length : Int) > 0 := by omega
    obtain ⟨HG1, hlt⟩ := HRD.out n X Y HG.out h0
    have HG1 := Lib.hid HG1
    have HLT := Lib.hid hlt
    have LG1 := Lib.hid (HSZ.out _ _ _ HG1.out).2.lq
    have hd1 := HDI.out X.length LEN.1
    clear hlt
    go_wp2_with fail
    ((with_reducible refine (ref_div14 MX.q MY.q TR.1 TR.2 h0 (by omega) (by omega) (by omega) (by omega) SZ.1 SZ.2 hd1 (by omega) hz3).mono ?_))
    rintro e W3 ⟨V3, R3, rfl, MQ, MR, u3⟩
    have MR := QRow.re (k := Z) MR LG1.out
    have MY := MY.up u3
    obtain ⟨T9, t9, rfl⟩ := MR.form
    clear LEN SZ TR MX MQ
    go_wp2_with fail
    go_roundw
    case rel => exact ⟨n + 1, _, _, HG1, MY, MR.weaken UP, UP.trans u3⟩
    case measure => exact HLT.out
end Go.Proofs.YtmmcffceeahemaaGreat
