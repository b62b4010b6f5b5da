/-
  Layer 14: the program's answers and the document's, told by letters and with their sizes.
-/
import Derived.Test.YtmmcffceeahemaaGreatRefPoly3
import Derived.Test.YtmmcffceeahemaaGreatRefPoly5
set_option linter.unusedVariables false
set_option linter.unusedSimpArgs false
namespace Go.Proofs.YtmmcffceeahemaaGreat
open Go.RowKit

theorem pnorm_as {v : Value} {qs R : List Rat} {ka K : Nat} {w : World} (h : FSq ka w v qs) (hl : qs.length ≤ 10000) (hka : ka ≤ 10000000) (HR : Hid (Pq.nm qs = R)) (HL : Hid (∀ x ∈ R, Wd.Lq x K)) : Calls Tryz.prog 28 #[v] w (RetP K R w) := by
 rw [← HR.out] at HL ⊢
 exact (poly_norm h.sq (by omega) hka).mono fun e w' h => h.re HL.out
theorem pscale_as {vc v : Value} {c : Rat} {qs R : List Rat} {kc ka K : Nat} {w : World} (hc : Fr w vc c kc) (h : FSq ka w v qs) (hl : qs.length ≤ 10000) (hkc : kc ≤ 4000000) (hka : ka ≤ 4000000) (HR : Hid (Pq.nm (Pq.sc c qs) = R)) (HL : Hid (∀ x ∈ R, Wd.Lq x K)) : Calls Tryz.prog 41 #[vc, v] w (RetP K R w) := by
 rw [← HR.out] at HL ⊢
 exact (poly_scale hc h.sq (by omega) hkc hka).mono fun e w' h => h.re HL.out
theorem pmul_as {v u : Value} {ps qs R : List Rat} {ka kb K : Nat} (j k : Nat) {w : World} (h : FSq ka w v ps) (h2 : FSq kb w u qs) (LP : Pq.Lp ps j) (LQ : Pq.Lp qs k) (hl : ps.length ≤ 10000) (hl2 : qs.length ≤ 10000) (hka : ka ≤ 4000000) (hkb : kb ≤ 4000000) (hk : j + k ≤ 3000000) (HR : Hid (Pq.nm (Pq.mul ps qs) = R)) (HL : Hid (∀ x ∈ R, Wd.Lq x K)) :
 Calls Tryz.prog 39 #[v, u] w (RetP K R w) := by
 rw [← HR.out] at HL ⊢
 exact (poly_mul2 h h2 LP LQ hl hl2 hka hkb hk).mono fun e w' h => h.re HL.out
theorem padd_as {v u : Value} {ps qs R : List Rat} {ka kb K : Nat} (j k : Nat) {w : World} (h : FSq ka w v ps) (h2 : FSq kb w u qs) (LP : Pq.Lp ps j) (LQ : Pq.Lp qs k) (hl : ps.length ≤ 10000) (hl2 : qs.length ≤ 10000) (hka : ka ≤ 3000000) (hkb : kb ≤ 3000000) (HR : Hid (Pq.nm (Pq.add ps qs) = R)) (HL : Hid (∀ x ∈ R, Wd.Lq x K)) :
 Calls Tryz.prog 35 #[v, u] w (RetP K R w) := by
 rw [← HR.out] at HL ⊢
 exact (poly_add2 h h2 LP LQ hl hl2 hka hkb).mono fun e w' h => h.re HL.out
theorem psub_as {v u : Value} {ps qs R : List Rat} {ka kb K : Nat} (j k : Nat) {w : World} (h : FSq ka w v ps) (h2 : FSq kb w u qs) (LP : Pq.Lp ps j) (LQ : Pq.Lp qs k) (hl : ps.length ≤ 10000) (hl2 : qs.length ≤ 10000) (hka : ka ≤ 3000000) (hkb : kb ≤ 3000000) (HR : Hid (Pq.nm (Pq.sub ps qs) = R)) (HL : Hid (∀ x ∈ R, Wd.Lq x K)) :
 Calls Tryz.prog 37 #[v, u] w (RetP K R w) := by
 rw [← HR.out] at HL ⊢
 exact (poly_sub2 h h2 LP LQ hl hl2 hka hkb).mono fun e w' h => h.re HL.out
theorem pdiff_as {v : Value} {qs R : List Rat} {ka K : Nat} {w : World} (h : FSq ka w v qs) (hl : qs.length ≤ 10000) (hka : ka ≤ 4000000) (HR : Hid (Pq.nm (Pq.df qs) = R)) (HL : Hid (∀ x ∈ R, Wd.Lq x K)) : Calls Tryz.prog 44 #[v] w (RetP K R w) := by
 rw [← HR.out] at HL ⊢
 exact (poly_diff h.sq (by omega) hka).mono fun e w' h => h.re HL.out
theorem rnorm_as {v : Value} {qs R : List Rat} {k : Nat} {w : World} (h : QSq k w v qs) (hl : qs.length ≤ 1000000) (hk : k ≤ 10000000) (HR : Hid (Pq.nm qs = R)) : Calls Tryz.prog 22 #[v] w (RetQR k R w) := by
 rw [← HR.out]
 exact ref_norm14 h hl hk
theorem rmul_as {v u : Value} {ps qs R : List Rat} {ka kb K : Nat} (j k : Nat) {w : World} (h : QSq ka w v ps) (h2 : QSq kb w u qs) (LP : Pq.Lp ps j) (LQ : Pq.Lp qs k) (hl : ps.length ≤ 10000) (hl2 : qs.length ≤ 10000) (hka : ka ≤ 900000) (hkb : kb ≤ 900000) (hk : j + k + 1 ≤ 900000) (HR : Hid (Pq.nm (Pq.mul ps qs) = R)) (HL : Hid (∀ x ∈ R, Wd.Lq x K)) : Calls Tryz.prog 40 #[v, u] w (RetQR K R w) := by
 rw [← HR.out] at HL ⊢
 exact (ref_mul14 h h2 hl hl2 hka hkb LP LQ hk).mono fun e w' h => h.re HL.out
theorem rdiff_as {v : Value} {qs R : List Rat} {ka K : Nat} {w : World} (h : QSq ka w v qs) (hl : qs.length ≤ 1000000) (hka : ka ≤ 1000000) (HR : Hid (Pq.nm (Pq.df qs) = R)) (HL : Hid (∀ x ∈ R, Wd.Lq x K)) : Calls Tryz.prog 45 #[v] w (RetQR K R w) := by
 rw [← HR.out] at HL ⊢
 exact (ref_diff14 h hl hka).mono fun e w' h => h.re HL.out
theorem is_yes {v u : Value} {R : List Rat} {k : Nat} {w : World} (h : QSq k w v R) (h' : QSq k w u R) (hl : R.length ≤ 1000000) (hk : k ≤ 20000000) : Calls Tryz.prog 27 #[v, u] w fun e w' => e = .returned (.bool true) ∧ Up w w' :=
 (law_is11 h h' hl hl hk).mono fun e w' ⟨h1, h2⟩ => ⟨by rw [h1, decide_eq_true rfl], h2⟩
theorem same_as {v u : Value} {ps qs : List Rat} {k : Nat} {w : World} (h : QSq k w v ps) (h' : QSq k w u qs) (hl : ps.length ≤ 1000000) (hl' : qs.length ≤ 1000000) (hk : k ≤ 20000000) {t : Bool} (HT : Hid (decide (ps = qs) = t)) : Calls Tryz.prog 31 #[v, u] w fun e w' => e = .returned (.bool t) ∧ Up w w' := by
 rw [← HT.out]
 exact ref_same11 h.sq h'.sq (by omega) (by omega) hk
end Go.Proofs.YtmmcffceeahemaaGreat
