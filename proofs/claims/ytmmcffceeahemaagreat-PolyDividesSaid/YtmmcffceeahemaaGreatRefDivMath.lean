/-
  Polynomials, plain: division as the document goes through it: the noughts at the head of what is left are skipped.
-/
import Derived.Test.YtmmcffceeahemaaGreatPolyPlain
set_option linter.unusedVariables false
set_option linter.unusedSimpArgs false
namespace Pq
/-- What is left, and the quotient, behind some rounds. -/
def Dst (a b q r : List Rat) : Prop := ∃ s, s ≤ a.length - b.length + 1 ∧ (∀ x, E r x = E (dst a b s).1 x) ∧ (∀ x, E q x = E (dst a b s).2 x)
theorem dst_same {a b : List Rat} (hl : b.length ≤ a.length) (hb : b ≠ []) {s : Nat} (h0 : (dst a b s).1.getD (a.length - 1 - s) 0 = 0) (hs : s ≤ a.length - b.length) : (∀ x, E (dst a b (s + 1)).1 x = E (dst a b s).1 x) ∧ ∀ x, E (dst a b (s + 1)).2 x = E (dst a b s).2 x := by
 have hc : dc a b (dst a b s).1 s = 0 := by unfold dc; rw [h0, Rat.div_def, Rat.zero_mul]
 refine ⟨fun x => ?_, fun x => ?_⟩
 · simp only [dst]
   rw [hc, show (-(0 : Rat)) = 0 by decide, mrow_zero]
 · simp only [dst]
   have e2 := E_set (dst a b s).2 (a.length - b.length - s) 0 x (by rw [(dst_len a b s).2]; omega)
   rw [dst_q0 a b s _ (by omega), Rat.add_zero, Rat.mul_zero, Rat.add_zero] at e2
   rw [hc, e2]
theorem dst_skip {a b : List Rat} (hl : b.length ≤ a.length) (hb : b ≠ []) {r : List Rat} {s : Nat} (hr : ∀ x, E r x = E (dst a b s).1 x) : ∀ k, s + k ≤ a.length - b.length + 1 → ln r + (s + k) ≤ a.length → (∀ x, E (dst a b (s + k)).1 x = E (dst a b s).1 x) ∧ ∀ x, E (dst a b (s + k)).2 x = E (dst a b s).2 x
 | 0, _, _ => ⟨fun _ => rfl, fun _ => rfl⟩
 | k + 1, h1, h2 => by
   obtain ⟨i1, i2⟩ := dst_skip hl hb hr k (by omega) (by omega)
   have hz : (dst a b (s + k)).1.getD (a.length - 1 - (s + k)) 0 = 0 := by
    rw [← getD_ext (p := r) (fun x => by rw [hr, i1])]
    exact getD_ln (by omega)
   obtain ⟨j1, j2⟩ := dst_same hl hb hz (by omega)
   exact ⟨fun x => by rw [← Nat.add_assoc, j1, i1], fun x => by rw [← Nat.add_assoc, j2, i2]⟩
/-- One round of the document's. -/
theorem Dst.round {a b q r : List Rat} (ha : Tr a) (hb : Tr b) (hne : b ≠ []) (hl : b.length ≤ a.length) (h : Dst a b q r) (hr : Tr r) (hrl : b.length ≤ r.length) {c : Rat} (hc : c = r.getD (r.length - 1) 0 / b.getD (b.length - 1) 0) {q' r' : List Rat}
 (hq' : ∀ x, E q' x = E q x + x ^ (r.length - b.length) * c) (hr' : ∀ x, E r' x = E r x - x ^ (r.length - b.length) * c * E b x) : Dst a b q' r' ∧ ln r' < r.length := by
 obtain ⟨s, hs, e1, e2⟩ := h
 have hb1 := List.length_pos_iff.2 hne
 have htop : b.getD (b.length - 1) 0 ≠ 0 := hb.elim (fun k => absurd k hne) id
 have hlr : ln r = r.length := ln_tr hr
 have hle : r.length + s ≤ a.length := by
  apply Classical.byContradiction
  intro hno
  have hrn : nm r ≠ [] := by rw [nm_of_tr hr]; intro e; have := congrArg List.length e; simp only [List.length_nil] at this; omega
  have h1 := top_ln hrn
  rw [hlr, getD_ext e1] at h1
  exact h1 (dst_top htop hl s hs (r.length - 1) (by omega))
 obtain ⟨k, hk⟩ : ∃ k, s + k = a.length - r.length := ⟨a.length - r.length - s, by omega⟩
 obtain ⟨f1, f2⟩ := dst_skip hl hne e1 k (by omega) (by omega)
 have hcc : dc a b (dst a b (s + k)).1 (s + k) = c := by
  unfold dc
  rw [hc, show a.length - 1 - (s + k) = r.length - 1 by omega]
  rw [getD_ext (p := r) (q := (dst a b (s + k)).1) (fun x => by rw [e1, f1])]
 have hpos : a.length - b.length - (s + k) = r.length - b.length := by omega
 have g1 : ∀ x, E (dst a b (s + k + 1)).1 x = E r' x := fun x => by
  have m1 := E_mrow (-(dc a b (dst a b (s + k)).1 (s + k))) b (a.length - b.length - (s + k)) x b.length (dst a b (s + k)).1 (by rw [(dst_len a b (s + k)).1]; omega) (Nat.le_refl _)
  rw [List.take_length] at m1
  simp only [dst]
  rw [m1, hcc, hpos, f1, ← e1, hr']
  grind
 have g2 : ∀ x, E (dst a b (s + k + 1)).2 x = E q' x := fun x => by
  have m2 := E_set (dst a b (s + k)).2 (a.length - b.length - (s + k)) (dc a b (dst a b (s + k)).1 (s + k)) x (by rw [(dst_len a b (s + k)).2]; omega)
  rw [dst_q0 a b (s + k) _ (by omega), Rat.zero_add] at m2
  simp only [dst]
  rw [m2, hcc, hpos, f2, ← e2, hq']
 refine ⟨⟨s + k + 1, by omega, fun x => (g1 x).symm, fun x => (g2 x).symm⟩, ?_⟩
 have : ln r' ≤ r.length - 1 := by
  rw [← ln_ext g1]
  exact nm_le_of fun m hm => dst_top htop hl (s + k + 1) (by omega) m (by omega)
 have := hrl
 omega
theorem Dst.start {a b : List Rat} : Dst a b [] a := ⟨0, Nat.zero_le _, fun x => rfl, fun x => by rw [E_nil]; exact (E_replicate _ _).symm⟩
theorem Dst.is {a b q r : List Rat} (hl : b.length ≤ a.length) (hb : b ≠ []) (h : Dst a b q r) (x : Rat) : E a x = E q x * E b x + E r x := by
 obtain ⟨s, hs, e1, e2⟩ := h
 rw [e1, e2]
 exact dst_E hl hb s hs x
theorem Dst.size {a b q r : List Rat} {j k : Nat} (h : Dst a b q r) (ha : Lp a j) (hb : Lp b k) (tb : Tr b) (hne : b ≠ []) (hl : b.length ≤ a.length) : Lp (nm r) (j + (a.length + 1) * (k + 1)) ∧ Lp (nm q) (j + k + (a.length + 1) * (k + 1)) := by
 obtain ⟨s, hs, e1, e2⟩ := h
 obtain ⟨h1, h2, _, _⟩ := div_states ha hb tb hne s
 have hb1 := List.length_pos_iff.2 hne
 have hm : s * (k + 1) ≤ (a.length + 1) * (k + 1) := Nat.mul_le_mul_right _ (by omega)
 rw [nm_ext e1, nm_ext e2]
 exact ⟨h1.nm.mono (by omega), h2.nm.mono (by omega)⟩
/-- A term. -/
def tm (n : Nat) (c : Rat) : List Rat := List.replicate n 0 ++ [c]
theorem tm_len (n : Nat) (c : Rat) : (tm n c).length = n + 1 := by simp [tm]
theorem E_tm (n : Nat) (c : Rat) (x : Rat) : E (tm n c) x = x ^ n * c := by
 unfold tm
 rw [E_append, E_replicate, List.length_replicate]
 simp only [E]
 grind
theorem Lp.tm {c : Rat} {j : Nat} (h : Wd.Lq c j) (n : Nat) (hj : 1 ≤ j) : Lp (tm n c) (j + 1) := by
 have h1 : Lp [c] (j + 1) := Lp.cons h Lp.nil
 obtain ⟨d, a1, a2, N, a3, a4⟩ := h1
 refine ⟨d, a1, a2, N, a3, fun y hy => ?_⟩
 rcases List.mem_append.1 hy with hy | hy
 · rw [(List.mem_replicate.1 hy).2]; exact Cm.zero _ _
 · exact a4 y hy
end Pq
