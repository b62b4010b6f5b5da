/-
  Polynomials, plain: the common divisor as the document goes to it: the rests are multiples of the right ones.
-/
import Derived.Test.YtmmcffceeahemaaGreatRefDivMath2
set_option linter.unusedVariables false
set_option linter.unusedSimpArgs false
namespace Pq
theorem sc_sc (c d : Rat) (p : List Rat) : sc c (sc d p) = sc (c * d) p := by
 unfold sc
 rw [List.map_map]
 exact List.map_congr_left fun q _ => (Rat.mul_assoc ..).symm
theorem sc_nil_iff {c : Rat} {p : List Rat} : sc c p = [] ↔ p = [] := by unfold sc; exact List.map_eq_nil_iff
theorem sc_tr {c : Rat} {p : List Rat} (hc : c ≠ 0) (h : Tr p) : Tr (sc c p) := by
 rcases h with rfl | h
 · exact .inl rfl
 · refine .inr ?_
   rw [sc_len, sc_getD]
   exact fun e => (Rat.mul_eq_zero.1 e).elim hc h
/-- The highest one, or 1 where there is none. -/
def top (p : List Rat) : Rat := if p = [] then 1 else p.getD (p.length - 1) 0
theorem top_nz {p : List Rat} (h : Tr p) : top p ≠ 0 := by
 unfold top
 split
 · decide
 · next hn => exact h.elim (fun k => absurd k hn) id
theorem top_mo {p : List Rat} (h : Tr p) : sc (top p) (mo p) = p := by
 have hz := top_nz h
 by_cases hn : p = []
 · subst hn; rfl
 · have e : top p = p.getD (p.length - 1) 0 := by unfold top; rw [if_neg hn]
   unfold mo
   rw [← e, sc_sc, Rat.div_def, Rat.one_mul, Rat.mul_inv_cancel _ hz, sc_one]
theorem top_lq {p : List Rat} {k : Nat} (h : Lp p k) : Wd.Lq (top p) k := by
 unfold top
 split
 · have c1 : Cm 1 1 1 := ⟨1, by simp, by decide⟩
   exact (c1.lq (k := 1) (by omega) (by rw [Nat.pow_one]; have := B2; omega) (by rw [Nat.pow_one]; have := B2; omega) (by omega)).mono h.one_le
 · next hn =>
   have := List.length_pos_iff.2 hn
   rw [getD_at (by omega : p.length - 1 < p.length)]
   exact h.lq _ (List.getElem_mem _)
theorem ln_sc {c : Rat} (hc : c ≠ 0) (p : List Rat) : ln (sc c p) = ln p := by
 have h1 := ln_sc_le c p
 have h2 := ln_sc_le c⁻¹ (sc c p)
 rw [sc_sc, Rat.inv_mul_cancel _ hc, sc_one] at h2
 omega
theorem dr_scs {a b : List Rat} {k l : Rat} (hk : k ≠ 0) (hl : l ≠ 0) (hb : nm b ≠ []) : dr (sc k a) (sc l b) = sc k (dr a b) := by
 have hb2 : nm (sc l b) ≠ [] := fun e => by
  have h1 := ln_sc hl b
  have h2 := ln_pos hb
  rw [ln_nil e] at h1
  omega
 have h1 := dqr_div (p := a) (q := b) hb
 have h2 := dqr_div (p := sc k a) (q := sc l b) hb2
 have h3 : IsDiv (sc k a) (sc l b) (sc (k * l⁻¹) (dq a b)) (sc k (dr a b)) := by
  refine ⟨fun x => ?_, ?_⟩
  · rw [E_sc, E_sc, E_sc, E_sc, h1.1 x]
    have : l⁻¹ * l = 1 := Rat.inv_mul_cancel _ hl
    grind
  · have e1 := ln_sc hk (dr a b)
    have e2 := ln_sc hl b
    have := h1.2
    unfold ln at e1 e2
    omega
 have := (IsDiv.unique h2 h3).2
 rwa [nm_of_tr (dr_tr _ _), nm_of_tr (sc_tr hk (dr_tr _ _))] at this
/-- Both, behind so many rounds, with what they are multiplied by. -/
def Gk (x y : List Rat) (D m n : Nat) (X Y : List Rat) : Prop := (∀ i, i < n → (gst x y i).2 ≠ []) ∧ n + Y.length ≤ m ∧ ∃ k l, k ≠ 0 ∧ l ≠ 0 ∧ X = sc k (gst x y n).1 ∧ Y = sc l (gst x y n).2 ∧ Wd.Lq k (D * (n + 1)) ∧ Wd.Lq l (D * (n + 1))
theorem Gk.start {x y : List Rat} {j D m : Nat} (hx : Lp x j) (hy : Lp y j) (hD : j ≤ D) (hm : y.length ≤ m) : Gk x y D m 0 (nm x) (nm y) := by
 refine ⟨fun i hi => absurd hi (Nat.not_lt_zero _), by have := nm_len y; omega, top (nm x), top (nm y), top_nz (tr_nm x), top_nz (tr_nm y), (top_mo (tr_nm x)).symm, (top_mo (tr_nm y)).symm, (top_lq hx.nm).mono (by omega), (top_lq hy.nm).mono (by omega)⟩
theorem Gk.tr {x y X Y : List Rat} {D m n : Nat} (h : Gk x y D m n X Y) : Tr X ∧ Tr Y := by
 obtain ⟨_, _, k, l, hk, hl, rfl, rfl, _, _⟩ := h
 exact ⟨sc_tr hk (gst_mo x y n).1.tr, sc_tr hl (gst_mo x y n).2.tr⟩
theorem Gk.len {x y X Y : List Rat} {D m n : Nat} (hx : x.length ≤ m) (hy : y.length ≤ m) (h : Gk x y D m n X Y) : X.length ≤ m ∧ Y.length ≤ m := by
 obtain ⟨h1, _, k, l, hk, hl, rfl, rfl, _, _⟩ := h
 rw [sc_len, sc_len]
 exact gst_len x y hx hy n h1
theorem Gk.size {x y X Y : List Rat} {D m n K : Nat} (HK : ∀ n, (∀ i, i < n → (gst x y i).2 ≠ []) → Lp (gst x y n).1 K ∧ Lp (gst x y n).2 K) (h : Gk x y D m n X Y) : Lp X (D * (m + 1) + K) ∧ Lp Y (D * (m + 1) + K) := by
 obtain ⟨h1, h2, k, l, hk, hl, rfl, rfl, h3, h4⟩ := h
 have hm : D * (n + 1) ≤ D * (m + 1) := Nat.mul_le_mul_left _ (by omega)
 exact ⟨(Lp.sc h3 (HK n h1).1).mono (by omega), (Lp.sc h4 (HK n h1).2).mono (by omega)⟩
theorem Gk.round {x y X Y : List Rat} {D m n K : Nat} (hx : x.length ≤ m) (hy : y.length ≤ m) (HK : ∀ n, (∀ i, i < n → (gst x y i).2 ≠ []) → Lp (gst x y n).1 K ∧ Lp (gst x y n).2 K) (hD : K + (m + 1) * (K + 1) ≤ D) (h : Gk x y D m n X Y) (hne : Y ≠ []) : Gk x y D m (n + 1) Y (dr X Y) ∧ (dr X Y).length < Y.length := by
 have hlen := h.len hx hy
 obtain ⟨h1, h2, k, l, hk, hl, rfl, rfl, h3, h4⟩ := h
 have hn2 : (gst x y n).2 ≠ [] := fun e => hne (by rw [e]; rfl)
 have hmo := gst_mo x y n
 have hb : nm (gst x y n).2 ≠ [] := by rw [nm_of_tr hmo.2.tr]; exact hn2
 have hn1 : ∀ i, i < n + 1 → (gst x y i).2 ≠ [] := fun i hi => by
  rcases Nat.lt_or_ge i n with hh | hh
  · exact h1 i hh
  · obtain rfl : i = n := by omega
    exact hn2
 have e1 := dr_scs (a := (gst x y n).1) hk hl hb
 have e2 := top_mo (dr_tr (gst x y n).1 (gst x y n).2)
 have hs := dr_size (HK n h1).1 (HK n h1).2 hmo.1.tr hmo.2.tr hn2
 have hlt : (sc k (dr (gst x y n).1 (gst x y n).2)).length < (sc l (gst x y n).2).length := by
  have := gst_less hn2
  rw [sc_len, sc_len, ← mo_len]
  exact this
 have ht : Wd.Lq (top (dr (gst x y n).1 (gst x y n).2)) D := (top_lq hs).mono (by
  have : ((gst x y n).1.length - (gst x y n).2.length + 1) * (K + 1) ≤ (m + 1) * (K + 1) := Nat.mul_le_mul_right _ (by have := hlen.1; rw [sc_len] at this; omega)
  omega)
 rw [e1]
 refine ⟨⟨hn1, by omega, l, k * top (dr (gst x y n).1 (gst x y n).2), hl, fun e => (Rat.mul_eq_zero.1 e).elim hk (top_nz (dr_tr _ _)), rfl, ?_, h4.mono (Nat.mul_le_mul_left _ (by omega)), (h3.mul ht).mono (by rw [Nat.mul_succ D (n + 1)]; omega)⟩, hlt⟩
 show sc k (dr (gst x y n).1 (gst x y n).2) = sc (k * top (dr (gst x y n).1 (gst x y n).2)) (mo (dr (gst x y n).1 (gst x y n).2))
 rw [← sc_sc, e2]
/-- What comes back. -/
theorem Gk.fin {x y X : List Rat} {D m n : Nat} (h : Gk x y D m n X []) : IsGcd x y (gst x y n).1 ∧ (X = [] → (gst x y n).1 = []) ∧ (X ≠ [] → nm (sc (1 / X.getD (X.length - 1) 0) X) = (gst x y n).1) := by
 obtain ⟨h1, h2, k, l, hk, hl, rfl, e, h3, h4⟩ := h
 have hmo := gst_mo x y n
 have h0 : (gst x y n).2 = [] := sc_nil_iff.1 e.symm
 refine ⟨IsGcd.of_span (by have := gst_span x y n h1; rwa [h0] at this) hmo.1, fun e => sc_nil_iff.1 e, fun hn => ?_⟩
 have hn1 : (gst x y n).1 ≠ [] := fun e => hn (by rw [e]; rfl)
 have ht : (gst x y n).1.getD ((gst x y n).1.length - 1) 0 = 1 := hmo.1.elim (fun k => absurd k hn1) id
 rw [sc_len, sc_getD, ht, Rat.mul_one, sc_sc, Rat.div_def, Rat.one_mul, Rat.inv_mul_cancel _ hk, sc_one, nm_of_tr hmo.1.tr]
end Pq
