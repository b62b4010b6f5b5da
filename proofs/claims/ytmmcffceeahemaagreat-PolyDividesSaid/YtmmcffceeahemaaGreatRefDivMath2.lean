/-
  Polynomials, plain: the state of a division.
-/
import Derived.Test.YtmmcffceeahemaaGreatRefDivMath
set_option linter.unusedVariables false
set_option linter.unusedSimpArgs false
namespace Pq
theorem sub_len (p q : List Rat) : (sub p q).length = max p.length q.length := by unfold sub; rw [add_len, sc_len]
def Dt (a b : List Rat) (K : Nat) (q r : List Rat) : Prop := Tr q ∧ Tr r ∧ (∀ x, E a x = E q x * E b x + E r x) ∧ Lp r K ∧ Lp q K ∧ r.length ≤ a.length ∧ q.length ≤ a.length + 1 ∧ ((q = [] ∧ r = a) ∨ (b.length ≤ a.length ∧ Dst a b q r))
theorem Dt.start {a b : List Rat} {j K : Nat} (ta : Tr a) (ha : Lp a j) (hK : j ≤ K) : Dt a b K [] a := ⟨.inl rfl, ta, fun x => by rw [E_nil]; grind, ha.mono hK, Lp.nil.mono (Nat.le_trans ha.one_le hK), Nat.le_refl _, Nat.zero_le _, .inl ⟨rfl, rfl⟩⟩
theorem Dt.round {a b q r : List Rat} {j k K : Nat} (ta : Tr a) (ha : Lp a j) (tb : Tr b) (hb : Lp b k) (hne : b ≠ []) (hK : j + k + (a.length + 1) * (k + 1) ≤ K) (h : Dt a b K q r) (hrl : b.length ≤ r.length) {c : Rat} (hc : c = r.getD (r.length - 1) 0 / b.getD (b.length - 1) 0) :
 Dt a b K (nm (add q (tm (r.length - b.length) c))) (nm (sub r (nm (mul (tm (r.length - b.length) c) b)))) ∧ (nm (sub r (nm (mul (tm (r.length - b.length) c) b)))).length < r.length := by
 obtain ⟨tq, tr, he, lr, lq, hlr, hlq, hd⟩ := h
 have hl : b.length ≤ a.length := by omega
 have hb1 := List.length_pos_iff.2 hne
 have D : Dst a b q r := by
  rcases hd with ⟨rfl, rfl⟩ | ⟨_, hd⟩
  · exact Dst.start
  · exact hd
 have e1 : ∀ x, E (nm (add q (tm (r.length - b.length) c))) x = E q x + x ^ (r.length - b.length) * c := fun x => by rw [E_nm, E_add, E_tm]
 have e2 : ∀ x, E (nm (sub r (nm (mul (tm (r.length - b.length) c) b)))) x = E r x - x ^ (r.length - b.length) * c * E b x := fun x => by rw [E_nm, E_sub, E_nm, E_mul, E_tm]
 obtain ⟨D', hlt⟩ := D.round ta tb hne hl tr hrl hc e1 e2
 obtain ⟨s1, s2⟩ := D'.size ha hb tb hne hl
 rw [nm_nm] at s1 s2
 have hlt' : (nm (sub r (nm (mul (tm (r.length - b.length) c) b)))).length < r.length := by
  have := hlt
  unfold ln at this
  rwa [nm_nm] at this
 refine ⟨⟨tr_nm _, tr_nm _, fun x => D'.is hl hne x, s1.mono (by omega), s2.mono hK, by omega, ?_, .inr ⟨hl, D'⟩⟩, hlt'⟩
 exact Nat.le_trans (nm_len _) (by rw [add_len, tm_len]; omega)
theorem Dt.fin {a b q r : List Rat} {K : Nat} (tb : Tr b) (hne : b ≠ []) (h : Dt a b K q r) (hlt : r.length < b.length) : q = dq a b ∧ r = dr a b := by
 obtain ⟨tq, tr, he, lr, lq, hlr, hlq, hd⟩ := h
 have hnb : nm b ≠ [] := by rwa [nm_of_tr tb]
 have hu := IsDiv.unique (a := a) (b := b) (q := q) (r := r) ⟨he, by rw [nm_of_tr tb, nm_of_tr tr]; exact hlt⟩ (dqr_div hnb)
 rw [nm_of_tr tq, nm_of_tr tr, nm_of_tr (dq_tr a b), nm_of_tr (dr_tr a b)] at hu
 exact hu
end Pq
