/-
  Layer 14: the program's answers and the document's, told by letters and with their sizes.
  Polynomials, plain: division as the document goes through it: the noughts at the head of what is left are skipped.
  Polynomials, plain: the state of a division.
-/
import Derived.Test.YtmmcffceeahemaaGreatZtRefPoly5
import Derived.Test.YtmmcffceeahemaaGreatZtShort
import Derived.Test.YtmmcffceeahemaaGreatZtPolyPlain
set_option linter.unusedVariables false
set_option linter.unusedSimpArgs false
namespace Go.Proofs.YtmmcffceeahemaaGreat
open Go.RowKit
theorem rnorm_as {v : Value} {qs R : List Rat} {k : Nat} {w : World} (h : QSq k w v qs) (hl : qs.length ≤ 1000000) (hk : k ≤ 10000000) (HR : Hid (Pq.nm qs = R)) : Calls Tryz.prog 22 #[v] w (RetQR k R w) := by
 rw [← HR.out]
 exact ref_norm14 h hl hk
theorem rmul_as {v u : Value} {ps qs R : List Rat} {ka kb K : Nat} (j k : Nat) {w : World} (h : QSq ka w v ps) (h2 : QSq kb w u qs) (LP : Pq.Lp ps j) (LQ : Pq.Lp qs k) (hl : ps.length ≤ 10000) (hl2 : qs.length ≤ 10000) (hka : ka ≤ 2400000) (hkb : kb ≤ 2400000) (hk : j + k + 1 ≤ 2400000) (HR : Hid (Pq.nm (Pq.mul ps qs) = R)) (HL : Hid (∀ x ∈ R, Wd.Lq x K)) : Calls Tryz.prog 40 #[v, u] w (RetQR K R w) := by
 rw [← HR.out] at HL ⊢
 exact (ref_mul14 h h2 hl hl2 hka hkb LP LQ hk).mono fun e w' h => h.re HL.out
theorem rdiff_as {v : Value} {qs R : List Rat} {ka K : Nat} {w : World} (h : QSq ka w v qs) (hl : qs.length ≤ 1000000) (hka : ka ≤ 1000000) (HR : Hid (Pq.nm (Pq.df qs) = R)) (HL : Hid (∀ x ∈ R, Wd.Lq x K)) : Calls Tryz.prog 45 #[v] w (RetQR K R w) := by
 rw [← HR.out] at HL ⊢
 exact (ref_diff14 h hl hka).mono fun e w' h => h.re HL.out
theorem is_yes {v u : Value} {R : List Rat} {k : Nat} {w : World} (h : QSq k w v R) (h' : QSq k w u R) (hl : R.length ≤ 1000000) (hk : k ≤ 20000000) : Calls Tryz.prog 27 #[v, u] w fun e w' => e = .returned (.bool true) ∧ Up w w' :=
 (law_is11 h h' hl hl hk).mono fun e w' ⟨h1, h2⟩ => ⟨by rw [h1, decide_eq_true rfl], h2⟩
theorem same_as {v u : Value} {ps qs : List Rat} {k : Nat} {w : World} (h : QSq k w v ps) (h' : QSq k w u qs) (hl : ps.length ≤ 1000000) (hl' : qs.length ≤ 1000000) (hk : k ≤ 20000000) {t : Bool} (HT : Hid (decide (ps = qs) = t)) : Calls Tryz.prog 31 #[v, u] w fun e w' => e = .returned (.bool t) ∧ Up w w' := by
 rw [← HT.out]
 exact ref_same11 h.sq h'.sq (by omega) (by omega) hk
end Go.Proofs.YtmmcffceeahemaaGreat
namespace Pq
/-- What is left, and the quotient, behind some rounds. -/
def Dst (a b q r : List Rat) : Prop := ∃ s, s ≤ a.length - b.length + 1 ∧ (∀ x, E r x = E (dst a b s).1 x) ∧ (∀ x, E q x = E (dst a b s).2 x)
theorem dst_same {a b : List Rat} (hl : b.length ≤ a.length) (hb : b ≠ []) {s : Nat} (h0 : (dst a b s).1.getD (a.length - 1 - s) 0 = 0) (hs : s ≤ a.length - b.length) : (∀ x, E (dst a b (s + 1)).1 x = E (dst a b s).1 x) ∧ ∀ x, E (dst a b (s + 1)).2 x = E (dst a b s).2 x := by
 have hc : dc a b (dst a b s).1 s = 0 := by unfold dc; rw [h0, Rat.div_def, Rat.zero_mul]
 refine ⟨fun x => ?_, fun x => ?_⟩
 · simp only [dst]
   rw [hc, show (-(0 : Rat)) = 0 by decide, mrow_zero]
 · simp only [dst]
   have e2 := E_set (dst a b s).2 (a.length - b.length - s) 0 x (by rw [(dst_len a b s).2]; omega)
   rw [dst_q0 a b s _ (by omega), Rat.add_zero, Rat.mul_zero, Rat.add_zero] at e2
   rw [hc, e2]
theorem dst_skip {a b : List Rat} (hl : b.length ≤ a.length) (hb : b ≠ []) {r : List Rat} {s : Nat} (hr : ∀ x, E r x = E (dst a b s).1 x) : ∀ k, s + k ≤ a.length - b.length + 1 → ln r + (s + k) ≤ a.length → (∀ x, E (dst a b (s + k)).1 x = E (dst a b s).1 x) ∧ ∀ x, E (dst a b (s + k)).2 x = E (dst a b s).2 x
 | 0, _, _ => ⟨fun _ => rfl, fun _ => rfl⟩
 | k + 1, h1, h2 => by
   obtain ⟨i1, i2⟩ := dst_skip hl hb hr k (by omega) (by omega)
   have hz : (dst a b (s + k)).1.getD (a.length - 1 - (s + k)) 0 = 0 := by
    rw [← getD_ext (p := r) (fun x => by rw [hr, i1])]
    exact getD_ln (by omega)
   obtain ⟨j1, j2⟩ := dst_same hl hb hz (by omega)
   exact ⟨fun x => by rw [← Nat.add_assoc, j1, i1], fun x => by rw [← Nat.add_assoc, j2, i2]⟩
/-- One round of the document's. -/
theorem Dst.round {a b q r : List Rat} (ha : Tr a) (hb : Tr b) (hne : b ≠ []) (hl : b.length ≤ a.length) (h : Dst a b q r) (hr : Tr r) (hrl : b.length ≤ r.length) {c : Rat} (hc : c = r.getD (r.length - 1) 0 / b.getD (b.length - 1) 0) {q' r' : List Rat}
 (hq' : ∀ x, E q' x = E q x + x ^ (r.length - b.length) * c) (hr' : ∀ x, E r' x = E r x - x ^ (r.length - b.length) * c * E b x) : Dst a b q' r' ∧ ln r' < r.length := by
 obtain ⟨s, hs, e1, e2⟩ := h
 have hb1 := List.length_pos_iff.2 hne
 have htop : b.getD (b.length - 1) 0 ≠ 0 := hb.elim (fun k => absurd k hne) id
 have hlr : ln r = r.length := ln_tr hr
 have hle : r.length + s ≤ a.length := by
  apply Classical.byContradiction
  intro hno
  have hrn : nm r ≠ [] := by rw [nm_of_tr hr]; intro e; have := congrArg List.length e; simp only [List.length_nil] at this; omega
  have h1 := top_ln hrn
  rw [hlr, getD_ext e1] at h1
  exact h1 (dst_top htop hl s hs (r.length - 1) (by omega))
 obtain ⟨k, hk⟩ : ∃ k, s + k = a.length - r.length := ⟨a.length - r.length - s, by omega⟩
 obtain ⟨f1, f2⟩ := dst_skip hl hne e1 k (by omega) (by omega)
 have hcc : dc a b (dst a b (s + k)).1 (s + k) = c := by
  unfold dc
  rw [hc, show a.length - 1 - (s + k) = r.length - 1 by omega]
  rw [getD_ext (p := r) (q := (dst a b (s + k)).1) (fun x => by rw [e1, f1])]
 have hpos : a.length - b.length - (s + k) = r.length - b.length := by omega
 have g1 : ∀ x, E (dst a b (s + k + 1)).1 x = E r' x := fun x => by
  have m1 := E_mrow (-(dc a b (dst a b (s + k)).1 (s + k))) b (a.length - b.length - (s + k)) x b.length (dst a b (s + k)).1 (by rw [(dst_len a b (s + k)).1]; omega) (Nat.le_refl _)
  rw [List.take_length] at m1
  simp only [dst]
  rw [m1, hcc, hpos, f1, ← e1, hr']
  grind
 have g2 : ∀ x, E (dst a b (s + k + 1)).2 x = E q' x := fun x => by
  have m2 := E_set (dst a b (s + k)).2 (a.length - b.length - (s + k)) (dc a b (dst a b (s + k)).1 (s + k)) x (by rw [(dst_len a b (s + k)).2]; omega)
  rw [dst_q0 a b (s + k) _ (by omega), Rat.zero_add] at m2
  simp only [dst]
  rw [m2, hcc, hpos, f2, ← e2, hq']
 refine ⟨⟨s + k + 1, by omega, fun x => (g1 x).symm, fun x => (g2 x).symm⟩, ?_⟩
 have : ln r' ≤ r.length - 1 := by
  rw [← ln_ext g1]
  exact nm_le_of fun m hm => dst_top htop hl (s + k + 1) (by omega) m (by omega)
 have := hrl
 omega
theorem Dst.start {a b : List Rat} : Dst a b [] a := ⟨0, Nat.zero_le _, fun x => rfl, fun x => by rw [E_nil]; exact (E_replicate _ _).symm⟩
theorem Dst.is {a b q r : List Rat} (hl : b.length ≤ a.length) (hb : b ≠ []) (h : Dst a b q r) (x : Rat) : E a x = E q x * E b x + E r x := by
 obtain ⟨s, hs, e1, e2⟩ := h
 rw [e1, e2]
 exact dst_E hl hb s hs x
theorem Dst.size {a b q r : List Rat} {j k : Nat} (h : Dst a b q r) (ha : Lp a j) (hb : Lp b k) (tb : Tr b) (hne : b ≠ []) (hl : b.length ≤ a.length) : Lp (nm r) (j + (a.length + 1) * (k + 1)) ∧ Lp (nm q) (j + k + (a.length + 1) * (k + 1)) := by
 obtain ⟨s, hs, e1, e2⟩ := h
 obtain ⟨h1, h2, _, _⟩ := div_states ha hb tb hne s
 have hb1 := List.length_pos_iff.2 hne
 have hm : s * (k + 1) ≤ (a.length + 1) * (k + 1) := Nat.mul_le_mul_right _ (by omega)
 rw [nm_ext e1, nm_ext e2]
 exact ⟨h1.nm.mono (by omega), h2.nm.mono (by omega)⟩
/-- A term. -/
def tm (n : Nat) (c : Rat) : List Rat := List.replicate n 0 ++ [c]
theorem tm_len (n : Nat) (c : Rat) : (tm n c).length = n + 1 := by simp [tm]
theorem E_tm (n : Nat) (c : Rat) (x : Rat) : E (tm n c) x = x ^ n * c := by
 unfold tm
 rw [E_append, E_replicate, List.length_replicate]
 simp only [E]
 grind
theorem Lp.tm {c : Rat} {j : Nat} (h : Wd.Lq c j) (n : Nat) (hj : 1 ≤ j) : Lp (tm n c) (j + 1) := by
 have h1 : Lp [c] (j + 1) := Lp.cons h Lp.nil
 obtain ⟨d, a1, a2, N, a3, a4⟩ := h1
 refine ⟨d, a1, a2, N, a3, fun y hy => ?_⟩
 rcases List.mem_append.1 hy with hy | hy
 · rw [(List.mem_replicate.1 hy).2]; exact Cm.zero _ _
 · exact a4 y hy
end Pq
namespace Pq
theorem sub_len (p q : List Rat) : (sub p q).length = max p.length q.length := by unfold sub; rw [add_len, sc_len]
def Dt (a b : List Rat) (K : Nat) (q r : List Rat) : Prop := Tr q ∧ Tr r ∧ (∀ x, E a x = E q x * E b x + E r x) ∧ Lp r K ∧ Lp q K ∧ r.length ≤ a.length ∧ q.length ≤ a.length + 1 ∧ ((q = [] ∧ r = a) ∨ (b.length ≤ a.length ∧ Dst a b q r))
theorem Dt.start {a b : List Rat} {j K : Nat} (ta : Tr a) (ha : Lp a j) (hK : j ≤ K) : Dt a b K [] a := ⟨.inl rfl, ta, fun x => by rw [E_nil]; grind, ha.mono hK, Lp.nil.mono (Nat.le_trans ha.one_le hK), Nat.le_refl _, Nat.zero_le _, .inl ⟨rfl, rfl⟩⟩
theorem Dt.round {a b q r : List Rat} {j k K : Nat} (ta : Tr a) (ha : Lp a j) (tb : Tr b) (hb : Lp b k) (hne : b ≠ []) (hK : j + k + (a.length + 1) * (k + 1) ≤ K) (h : Dt a b K q r) (hrl : b.length ≤ r.length) {c : Rat} (hc : c = r.getD (r.length - 1) 0 / b.getD (b.length - 1) 0) :
 Dt a b K (nm (add q (tm (r.length - b.length) c))) (nm (sub r (nm (mul (tm (r.length - b.length) c) b)))) ∧ (nm (sub r (nm (mul (tm (r.length - b.length) c) b)))).length < r.length := by
 obtain ⟨tq, tr, he, lr, lq, hlr, hlq, hd⟩ := h
 have hl : b.length ≤ a.length := by omega
 have hb1 := List.length_pos_iff.2 hne
 have D : Dst a b q r := by
  rcases hd with ⟨rfl, rfl⟩ | ⟨_, hd⟩
  · exact Dst.start
  · exact hd
 have e1 : ∀ x, E (nm (add q (tm (r.length - b.length) c))) x = E q x + x ^ (r.length - b.length) * c := fun x => by rw [E_nm, E_add, E_tm]
 have e2 : ∀ x, E (nm (sub r (nm (mul (tm (r.length - b.length) c) b)))) x = E r x - x ^ (r.length - b.length) * c * E b x := fun x => by rw [E_nm, E_sub, E_nm, E_mul, E_tm]
 obtain ⟨D', hlt⟩ := D.round ta tb hne hl tr hrl hc e1 e2
 obtain ⟨s1, s2⟩ := D'.size ha hb tb hne hl
 rw [nm_nm] at s1 s2
 have hlt' : (nm (sub r (nm (mul (tm (r.length - b.length) c) b)))).length < r.length := by
  have := hlt
  unfold ln at this
  rwa [nm_nm] at this
 refine ⟨⟨tr_nm _, tr_nm _, fun x => D'.is hl hne x, s1.mono (by omega), s2.mono hK, by omega, ?_, .inr ⟨hl, D'⟩⟩, hlt'⟩
 exact Nat.le_trans (nm_len _) (by rw [add_len, tm_len]; omega)
theorem Dt.fin {a b q r : List Rat} {K : Nat} (tb : Tr b) (hne : b ≠ []) (h : Dt a b K q r) (hlt : r.length < b.length) : q = dq a b ∧ r = dr a b := by
 obtain ⟨tq, tr, he, lr, lq, hlr, hlq, hd⟩ := h
 have hnb : nm b ≠ [] := by rwa [nm_of_tr tb]
 have hu := IsDiv.unique (a := a) (b := b) (q := q) (r := r) ⟨he, by rw [nm_of_tr tb, nm_of_tr tr]; exact hlt⟩ (dqr_div hnb)
 rw [nm_of_tr tq, nm_of_tr tr, nm_of_tr (dq_tr a b), nm_of_tr (dr_tr a b)] at hu
 exact hu
end Pq
