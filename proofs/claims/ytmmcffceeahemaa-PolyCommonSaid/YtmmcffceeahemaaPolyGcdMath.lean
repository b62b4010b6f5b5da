/-
  Polynomials, plain: the common divisor as the program goes through it, and how long its coefficients get.
-/
import Derived.Test.YtmmcffceeahemaaPolyDivMath
set_option linter.unusedVariables false
set_option linter.unusedSimpArgs false
namespace Pq
theorem nm_mo {p : List Rat} (h : Tr p) : nm (sc (1 / p.getD (p.length - 1) 0) p) = mo p := nm_of_tr (mo_mo h).tr
theorem mo_len (p : List Rat) : (mo p).length = p.length := sc_len _ _
theorem E_mo {p : List Rat} (h : Tr p) : ∃ c : Rat, c ≠ 0 ∧ ∀ x, E (mo p) x = c * E p x := by
  rcases h with rfl | h
  · exact ⟨1, by decide, fun x => by show (0 : Rat) = 1 * 0; rw [Rat.mul_zero]⟩
  · refine ⟨1 / p.getD (p.length - 1) 0, fun e => ?_, fun x => E_sc _ _ _⟩
    have := Rat.inv_mul_cancel _ h
    rw [Rat.div_def, Rat.one_mul] at e
    rw [e, Rat.zero_mul] at this
    exact absurd this (by decide)
/-- Both, behind so many rounds. -/
def gst (x y : List Rat) : Nat → List Rat × List Rat
  | 0 => (mo (nm x), mo (nm y))
  | n + 1 => ((gst x y n).2, mo (dr (gst x y n).1 (gst x y n).2))
theorem gst_mo (x y : List Rat) : ∀ n, Mo (gst x y n).1 ∧ Mo (gst x y n).2
  | 0 => ⟨mo_mo (tr_nm x), mo_mo (tr_nm y)⟩
  | n + 1 => ⟨(gst_mo x y n).2, mo_mo (dr_tr _ _)⟩
theorem gst_less {x y : List Rat} {n : Nat} (h : (gst x y n).2 ≠ []) : (gst x y (n + 1)).2.length < (gst x y n).2.length := by
  have hb := (gst_mo x y n).2.tr
  have h2 := (dqr_div (p := (gst x y n).1) (q := (gst x y n).2) (by rw [nm_of_tr hb]; exact h)).2
  rw [nm_of_tr hb, nm_of_tr (dr_tr _ _)] at h2
  show (mo (dr (gst x y n).1 (gst x y n).2)).length < _
  rw [mo_len]
  exact h2
theorem gst_span (x y : List Rat) : ∀ n, (∀ i, i < n → (gst x y i).2 ≠ []) → Span x y (gst x y n).1 (gst x y n).2
  | 0, _ => by
    obtain ⟨c, hc, h1⟩ := E_mo (tr_nm x)
    obtain ⟨d, hd, h2⟩ := E_mo (tr_nm y)
    exact Span.scale hc hd (fun t => by rw [← E_nm x]; exact h1 t) (fun t => by rw [← E_nm y]; exact h2 t)
  | n + 1, h => by
    have ih := gst_span x y n (fun i hi => h i (by omega))
    have hb := (gst_mo x y n).2.tr
    have h2 := dqr_div (p := (gst x y n).1) (q := (gst x y n).2) (by rw [nm_of_tr hb]; exact h n (by omega))
    obtain ⟨c, hc, h3⟩ := E_mo (dr_tr (gst x y n).1 (gst x y n).2)
    exact (ih.trans (Span.step h2.1)).trans (Span.scale (c := 1) (d := c) (by decide) hc (fun t => by rw [Rat.one_mul]; rfl) h3)
theorem gst_len (x y : List Rat) {m : Nat} (hx : x.length ≤ m) (hy : y.length ≤ m) : ∀ n, (∀ i, i < n → (gst x y i).2 ≠ []) → (gst x y n).1.length ≤ m ∧ (gst x y n).2.length ≤ m
  | 0, _ => by
    have := nm_len x
    have := nm_len y
    simp only [gst, mo_len]
    omega
  | n + 1, h => by
    have ih := gst_len x y hx hy n (fun i hi => h i (by omega))
    have := gst_less (h n (by omega))
    have e : (gst x y (n + 1)).1 = (gst x y n).2 := rfl
    rw [e]
    omega
theorem three_le (d : Nat) : d + 2 ≤ 3 ^ (d + 1) := by
  induction d with
  | zero => omega
  | succ d ih => rw [Nat.pow_succ]; omega
theorem three_le2 (d : Nat) : d + 1 + 2 ≤ 3 ^ (d + 1) := by
  induction d with
  | zero => omega
  | succ d ih => rw [Nat.pow_succ]; omega
theorem dr_size {a b : List Rat} {k : Nat} (ha : Lp a k) (hb : Lp b k) (ta : Tr a) (tb : Tr b) (h : b ≠ []) : Lp (dr a b) (k + (a.length - b.length + 1) * (k + 1)) := by
  unfold dr
  rw [nm_of_tr ta, nm_of_tr tb, if_neg h]
  split
  · exact ha.mono (by omega)
  · exact (ha.rm hb tb h).nm
theorem gst_size {x y : List Rat} {u m : Nat} (hx : Lp x u) (hy : Lp y u) (lx : x.length ≤ m) (ly : y.length ≤ m) :
    ∀ n, (∀ i, i < n → (gst x y i).2 ≠ []) → ∃ v, Lp (gst x y n).1 v ∧ Lp (gst x y n).2 v ∧ (n = 0 ∧ v = u ∨ (gst x y n).2.length < (gst x y n).1.length ∧ (v + 1) * 3 ^ (gst x y n).1.length ≤ 3 ^ (m + 1) * (u + 1))
  | 0, _ => ⟨u, hx.nm.mo (tr_nm x), hy.nm.mo (tr_nm y), .inl ⟨rfl, rfl⟩⟩
  | n + 1, h => by
    have hne := h n (by omega)
    have hless := gst_less hne
    obtain ⟨v, h1, h2, h3⟩ := gst_size hx hy lx ly n (fun i hi => h i (by omega))
    have hl := gst_len x y lx ly n (fun i hi => h i (by omega))
    obtain ⟨m1, m2⟩ := gst_mo x y n
    have e : (gst x y (n + 1)).1 = (gst x y n).2 := rfl
    have e2 : (gst x y (n + 1)).2 = mo (dr (gst x y n).1 (gst x y n).2) := rfl
    have hs := dr_size h1 h2 m1.tr m2.tr hne
    have hd := (dr_tr (gst x y n).1 (gst x y n).2)
    refine ⟨v + ((gst x y n).1.length - (gst x y n).2.length + 1) * (v + 1), by rw [e]; exact h2.mono (Nat.le_add_right _ _), by rw [e2]; exact hs.mo hd, .inr ⟨by rw [e]; exact hless, ?_⟩⟩
    rw [e]
    have l1 := hl.1
    have l2 := hl.2
    generalize (gst x y n).1.length = la at h3 l1 ⊢
    generalize (gst x y n).2.length = lb at h3 l2 ⊢
    have e3 : v + (la - lb + 1) * (v + 1) + 1 = (la - lb + 2) * (v + 1) := by rw [show la - lb + 2 = (la - lb + 1) + 1 by omega, Nat.succ_mul (la - lb + 1) (v + 1)]; omega
    rw [e3]
    rcases h3 with ⟨_, rfl⟩ | ⟨h4, h5⟩
    · have h6 : la - lb + 2 ≤ 3 ^ (la - lb + 1) := three_le _
      calc (la - lb + 2) * (v + 1) * 3 ^ lb ≤ 3 ^ (la - lb + 1) * (v + 1) * 3 ^ lb := Nat.mul_le_mul_right _ (Nat.mul_le_mul_right _ h6)
        _ = 3 ^ (la - lb + 1 + lb) * (v + 1) := by rw [Nat.pow_add 3 (la - lb + 1) lb, Nat.mul_right_comm]
        _ ≤ 3 ^ (m + 1) * (v + 1) := Nat.mul_le_mul_right _ (Nat.pow_le_pow_right (by omega) (by omega))
    · have h6 : la - lb + 2 ≤ 3 ^ (la - lb) := by
        obtain ⟨d, hd⟩ : ∃ d, la - lb = d + 1 := ⟨la - lb - 1, by omega⟩
        rw [hd]
        exact three_le2 d
      calc (la - lb + 2) * (v + 1) * 3 ^ lb ≤ 3 ^ (la - lb) * (v + 1) * 3 ^ lb := Nat.mul_le_mul_right _ (Nat.mul_le_mul_right _ h6)
        _ = (v + 1) * 3 ^ la := by
          rw [Nat.mul_comm (3 ^ (la - lb)), Nat.mul_assoc, ← Nat.pow_add, show la - lb + lb = la by omega]
        _ ≤ _ := h5
/-- A bound for all rounds. -/
theorem gst_bound {x y : List Rat} {u m K : Nat} (hx : Lp x u) (hy : Lp y u) (lx : x.length ≤ m) (ly : y.length ≤ m) (hK : 3 ^ (m + 1) * (u + 1) ≤ K) (n : Nat) (h : ∀ i, i < n → (gst x y i).2 ≠ []) : Lp (gst x y n).1 K ∧ Lp (gst x y n).2 K := by
  obtain ⟨v, h1, h2, h3⟩ := gst_size hx hy lx ly n h
  have hv : v ≤ K := by
    have p1 : 1 ≤ 3 ^ (m + 1) := Nat.pow_pos (by omega)
    rcases h3 with ⟨_, rfl⟩ | ⟨_, h5⟩
    · have : 1 * (v + 1) ≤ 3 ^ (m + 1) * (v + 1) := Nat.mul_le_mul_right _ p1
      omega
    · have p2 : 1 ≤ 3 ^ (gst x y n).1.length := Nat.pow_pos (by omega)
      have : (v + 1) * 1 ≤ (v + 1) * 3 ^ (gst x y n).1.length := Nat.mul_le_mul_left _ p2
      omega
  exact ⟨h1.mono hv, h2.mono hv⟩
end Pq
