/-
  Layer 15, the document's answers: values, whether one is 0, whether two are the same; what the program has is the document's.
  Powers of rational functions, plain.
-/
import Derived.Test.YtmmcffceeahemaaGreatZsRefRatf3
import Derived.Test.YtmmcffceeahemaaGreatZsRefDivMath2
import Derived.Test.YtmmcffceeahemaaGreatZsShort
import Derived.Test.YtmmcffceeahemaaGreatZsRefRatf2
set_option linter.unusedVariables false
set_option linter.unusedSimpArgs false
namespace Go.Proofs.YtmmcffceeahemaaGreat
open Go.RowKit
set_option maxRecDepth 100000 in
set_option maxHeartbeats 3200000 in
theorem ref_zero15 {v u : Value} {U D : List Rat} {k : Nat} {w : World} (h : QSq k w v U) (h2 : QSq k w u D) {t : Bool} (HT : Hid (decide (U = []) = t)) :
 Calls Tryz.prog 70 #[.agg #[v, u]] w fun e w' => e = .returned (.bool t) ∧ Up w w' := by
 obtain ⟨A, c, rfl⟩ := h.form
 obtain ⟨B, d, rfl⟩ := h2.form
 have HL : Hid (((U.length : Int) == 0) = t) := Lib.hid (by
  rw [← HT.out]
  by_cases e : U = []
  · simp [e]
  · simp [e])
 generalize U.length = n at *
 have k1 : ((n : Int) == 0) = t := HL.out
 have UP : Up w (w.alloc (.cells #[.slice A n c, .slice B D.length d] 80)) := (Up.refl w).alloc _
 have b0 := Bx.new 80 w [.slice A n c, .slice B D.length d]
 go_enter Tryz.func70, Tryz.ntmps70
 go_wp2_with fail
 generalize (w.alloc (.cells #[.slice A n c, .slice B D.length d] 80)) = W at *
 obtain ⟨b0_0, b0_1⟩ := b0.c2
 go_ret
 exact ⟨rfl, UP⟩
set_option maxRecDepth 100000 in
set_option maxHeartbeats 3200000 in
theorem law_is15 {v u v' u' : Value} {U D : List Rat} {k : Nat} {w : World} (h : QSq k w v U) (h2 : QSq k w u D) (h' : QSq k w v' U) (h2' : QSq k w u' D) (hl : U.length ≤ 1000) (hl2 : D.length ≤ 1000) (hk : k ≤ 1000000) :
 Calls Tryz.prog 68 #[.agg #[v, u], .agg #[v', u']] w fun e w' => e = .returned (.bool true) ∧ Up w w' := by
 obtain ⟨A1, c1, rfl⟩ := h.form
 obtain ⟨B1, d1, rfl⟩ := h2.form
 obtain ⟨A2, c2, rfl⟩ := h'.form
 obtain ⟨B2, d2, rfl⟩ := h2'.form
 have UP : Up w ((w.alloc (.cells #[.slice A1 U.length c1, .slice B1 D.length d1] 84)).alloc (.cells #[.slice A2 U.length c2, .slice B2 D.length d2] 80)) := ((Up.refl w).alloc _).alloc _
 obtain ⟨b0, b1⟩ := bx_two 84 80 w [.slice A1 U.length c1, .slice B1 D.length d1] [.slice A2 U.length c2, .slice B2 D.length d2]
 go_enter Tryz.func68, Tryz.ntmps68
 go_wp2_with fail
 generalize ((w.alloc (.cells #[.slice A1 U.length c1, .slice B1 D.length d1] 84)).alloc (.cells #[.slice A2 U.length c2, .slice B2 D.length d2] 80)) = W at *
 revert h h2 h' h2'
 refine lg4 UP ?_
 intro h h2 h' h2'
 obtain ⟨b0_0, b0_1⟩ := b0.c2
 obtain ⟨b1_0, b1_1⟩ := b1.c2
 ((with_reducible refine (is_yes h h' (by omega) (by omega)).mono ?_))
 rintro e W1 ⟨rfl, u1⟩
 revert UP b0 b1 h h2 h' h2' b0_0 b0_1 b1_0 b1_1
 revert u1
 refine lh11 ?_
 intro UP b0 b1 h h2 h' h2' b0_0 b0_1 b1_0 b1_1
 go_wp2_with fail
 ((with_reducible refine (is_yes h2 h2' (by omega) (by omega)).mono ?_))
 rintro e W2 ⟨rfl, u2⟩
 revert UP b0 b1 h h2 h' h2' b0_0 b0_1 b1_0 b1_1
 revert u2
 refine lh11 ?_
 intro UP b0 b1 h h2 h' h2' b0_0 b0_1 b1_0 b1_1
 go_wp2
 go_ret
 exact ⟨rfl, UP⟩
end Go.Proofs.YtmmcffceeahemaaGreat
namespace Pq
/-- Powers. -/
def pwl (p : List Rat) : Nat → List Rat
 | 0 => [1]
 | n + 1 => nm (mul (pwl p n) p)
theorem E_pwl (p : List Rat) (x : Rat) : ∀ n, E (pwl p n) x = E p x ^ n
 | 0 => by rw [pwl, E_one, Rat.pow_zero]
 | n + 1 => by rw [pwl, E_nm, E_mul, E_pwl p x n, Rat.pow_succ]
theorem pwl_len {p : List Rat} {m : Nat} (h : p.length ≤ m + 1) : ∀ n, (pwl p n).length ≤ n * m + 1
 | 0 => by simp [pwl]
 | n + 1 => by
   have ih := pwl_len h n
   have := nm_mul_len (pwl p n) p
   rw [pwl, Nat.succ_mul]
   omega
theorem pwl_lp {U D : List Rat} {j : Nat} (h : Lp (U ++ D) j) (lu : U.length ≤ 10 + 1) (ld : D.length ≤ 10 + 1) : ∀ n, n ≤ 50 → Lp (pwl U n ++ pwl D n) (n * (j + 1) + 3)
 | 0, _ => (Lp.few (k := 1) (fun x hx => by
    simp only [pwl, List.cons_append, List.nil_append, List.mem_cons, List.not_mem_nil, or_false, or_self] at hx
    rw [hx]
    exact (lp_one_row.snd).lq 1 (by simp))).mono (by simp [pwl])
 | n + 1, hn => by
   have ih := pwl_lp h lu ld n (by omega)
   have l1 := pwl_len lu n
   have l2 := pwl_len ld n
   have h1 : n * 10 ≤ 50 * 10 := Nat.mul_le_mul_right _ (by omega)
   have := lp_prod ih h (by omega) (by omega)
   rw [Nat.succ_mul]
   exact this.mono (by omega)
def Cop (A B : List Rat) : Prop := ∃ s t, ∀ x, E s x * E A x + E t x * E B x = 1
theorem Cop.symm {A B : List Rat} (h : Cop A B) : Cop B A := by
 obtain ⟨s, t, e⟩ := h
 exact ⟨t, s, fun x => by have := e x; grind⟩
theorem Cop.mul {A B C : List Rat} (h : Cop A B) (h' : Cop A C) : Cop A (nm (mul B C)) := by
 obtain ⟨s, t, e⟩ := h
 obtain ⟨s', t', e'⟩ := h'
 refine ⟨add (add (Pq.mul s (Pq.mul s' A)) (Pq.mul s (Pq.mul t' C))) (Pq.mul t (Pq.mul B s')), Pq.mul t t', fun x => ?_⟩
 have e1 := e x
 have e2 := e' x
 simp only [E_nm, E_mul, E_add]
 have : (E s x * E A x + E t x * E B x) * (E s' x * E A x + E t' x * E C x) = 1 := by rw [e1, e2, Rat.mul_one]
 grind
theorem Cop.pow {A B : List Rat} (h : Cop A B) : ∀ n, Cop A (pwl B n)
 | 0 => ⟨[], [1], fun x => by rw [pwl, E_nil, E_one]; grind⟩
 | n + 1 => (Cop.pow h n).mul h
theorem mo_mul {p q : List Rat} (hp : Mo p) (hq : Mo q) (np : p ≠ []) (nq : q ≠ []) : Mo (nm (mul p q)) ∧ nm (mul p q) ≠ [] := by
 have h1 : p.getD (p.length - 1) 0 = 1 := hp.elim (fun e => absurd e np) id
 have h2 : q.getD (q.length - 1) 0 = 1 := hq.elim (fun e => absurd e nq) id
 have hl := mul_len p q np nq
 have h3 := List.length_pos_iff.2 np
 have h4 := List.length_pos_iff.2 nq
 rw [nm_mul hp.tr hq.tr np nq]
 refine ⟨.inr ?_, (tr_mul hp.tr hq.tr np nq).2⟩
 rw [show (mul p q).length - 1 = p.length - 1 + (q.length - 1) by omega, mul_top p q np nq, h1, h2, Rat.mul_one]
theorem mo_pwl {D : List Rat} (h : Mo D) (hn : D ≠ []) : ∀ n, Mo (pwl D n) ∧ pwl D n ≠ []
 | 0 => ⟨.inr rfl, by simp [pwl]⟩
 | n + 1 => mo_mul (mo_pwl h hn n).1 h (mo_pwl h hn n).2 hn
theorem tr_pwl (U : List Rat) : ∀ n, Tr (pwl U n)
 | 0 => .inr (by simp [pwl])
 | n + 1 => tr_nm _
theorem can_pow {U D : List Rat} (h : Can U D U D) (n : Nat) : Can (pwl U n) (pwl D n) (pwl U n) (pwl D n) :=
 ⟨tr_pwl U n, (mo_pwl h.mo h.ne n).1, (mo_pwl h.mo h.ne n).2, fun x => rfl, ((Cop.pow (Cop.symm (Cop.pow h.cop n)) n).symm)⟩
/-- One more, of right ones. -/
theorem pow_up {P Q U D : List Rat} {n : Nat} {us ds : List Rat} (hQ : nm Q ≠ []) (h0 : Can P Q U D) (hc : Can (nm (mul (pwl U n) P)) (nm (mul (pwl D n) Q)) us ds) : us = pwl U (n + 1) ∧ ds = pwl D (n + 1) := by
 have h := h0.self
 have hp := can_pow h (n + 1)
 refine hc.unique (nmul_ne (can_pow h n).nd hQ) (hp.turn hp.nd fun x => ?_)
 have := h0.eq x
 rw [E_nm, E_mul, E_nm, E_mul, pwl, pwl, E_nm, E_mul, E_nm, E_mul]
 grind
/-- The other way up. -/
def ivc (U D : List Rat) : Rat := 1 / (D ++ U).getD ((D ++ U).length - 1) 0
theorem iv_top {U D : List Rat} (hU : U ≠ []) : (D ++ U).getD ((D ++ U).length - 1) 0 = U.getD (U.length - 1) 0 := by
 have := List.length_pos_iff.2 hU
 rw [List.length_append, List.getD_eq_getElem?_getD, List.getD_eq_getElem?_getD, List.getElem?_append_right (by omega), show D.length + U.length - 1 - D.length = U.length - 1 by omega]
theorem can_inv {U D : List Rat} (h : Can U D U D) (hU : U ≠ []) : Can D U (sc (ivc U D) D) (sc (ivc U D) U) := by
 have ht : U.getD (U.length - 1) 0 ≠ 0 := h.tr.elim (fun e => absurd e hU) id
 have hc : ivc U D * U.getD (U.length - 1) 0 = 1 := by
  unfold ivc
  rw [iv_top hU, Rat.div_def, Rat.one_mul, Rat.inv_mul_cancel _ ht]
 have hc0 : ivc U D ≠ 0 := fun e => by rw [e, Rat.zero_mul] at hc; exact absurd hc (by decide)
 generalize ivc U D = c at *
 obtain ⟨s, t, e⟩ := h.cop
 refine ⟨?_, .inr (by rw [sc_len, sc_getD, hc]), ?_, fun x => by rw [E_sc, E_sc]; grind, sc (1 / c) t, sc (1 / c) s, fun x => ?_⟩
 · rcases h.mo.tr with e | e
   · exact absurd e h.ne
   · exact .inr (by rw [sc_len, sc_getD]; exact fun k => (Rat.mul_eq_zero.1 k).elim hc0 e)
 · intro k
   have := congrArg List.length k
   rw [sc_len] at this
   exact hU (List.eq_nil_of_length_eq_zero this)
 · have e1 := e x
   have e2 : 1 / c * c = 1 := by rw [Rat.div_def, Rat.one_mul, Rat.inv_mul_cancel _ hc0]
   rw [E_sc, E_sc, E_sc, E_sc]
   calc 1 / c * E t x * (c * E D x) + 1 / c * E s x * (c * E U x) = (1 / c * c) * (E s x * E U x + E t x * E D x) := by grind
    _ = 1 := by rw [e1, e2, Rat.mul_one]
theorem lp_inv {U D : List Rat} {k : Nat} (h : Lp (U ++ D) k) (hc : Can U D U D) (hU : U ≠ []) : Lp (sc (ivc U D) D ++ sc (ivc U D) U) k := by
 have ht : U.getD (U.length - 1) 0 ≠ 0 := hc.tr.elim (fun e => absurd e hU) id
 have := Lp.mo h.swap (.inr (by rw [iv_top hU]; exact ht))
 have e : mo (D ++ U) = sc (ivc U D) D ++ sc (ivc U D) U := by unfold mo ivc sc; rw [List.map_append]
 rwa [e] at this
theorem pow_down {U D V F : List Rat} {n : Nat} {us ds : List Rat} (hU : nm U ≠ []) (hv : Can D U V F) (hc : Can (nm (mul (pwl V n) D)) (nm (mul (pwl F n) U)) us ds) : us = pwl V (n + 1) ∧ ds = pwl F (n + 1) :=
 pow_up hU hv hc
theorem mul_powr (a b : Rat) : ∀ n : Nat, (a * b) ^ n = a ^ n * b ^ n
 | 0 => by rw [Rat.pow_zero, Rat.pow_zero, Rat.pow_zero, Rat.mul_one]
 | n + 1 => by rw [Rat.pow_succ, Rat.pow_succ, Rat.pow_succ, mul_powr a b n]; grind
theorem pow_over {U D V F R us ds : List Rat} {n : Nat} (hR : ∀ x, E R x = 1) (h : Can U D U D) (hU : U ≠ []) (hv : Can D U V F) (hc : Can (nm (mul R (pwl D n))) (nm (mul [1] (pwl U n))) us ds) : us = pwl V n ∧ ds = pwl F n := by
 have hnU : nm U ≠ [] := by rw [nm_of_tr h.tr]; exact hU
 have hw := can_pow hv.self n
 have hUn : nm (pwl U n) ≠ [] := by
  intro e
  have h1 : ∀ x, E U x ^ n = 0 := fun x => by rw [← E_pwl]; exact E_of_nil e x
  have hne : ∀ k, nm (pwl U k) ≠ [] := fun k => by
   induction k with
   | zero => rw [pwl, nm_one]; simp
   | succ k ih => exact nmul_ne ih hnU
  exact hne n e
 refine hc.unique (nmul_ne (by rw [nm_one]; simp) hUn) (hw.turn hw.nd fun x => ?_)
 have := hv.eq x
 rw [E_nm, E_mul, E_nm, E_mul, E_one, hR, Rat.one_mul, Rat.one_mul, E_pwl, E_pwl, E_pwl, E_pwl, ← mul_powr, ← mul_powr, this]
/-- Is there a power? -/
def pwB (U : List Rat) (e : Int) : Bool := decide (-8 ≤ e ∧ e ≤ 8 ∧ ¬ (e < 0 ∧ U = []))
def pwU (U D : List Rat) (e : Int) : List Rat := if pwB U e then (if e < 0 then pwl (sc (ivc U D) D) e.natAbs else pwl U e.natAbs) else []
def pwD (U D : List Rat) (e : Int) : List Rat := if pwB U e then (if e < 0 then pwl (sc (ivc U D) U) e.natAbs else pwl D e.natAbs) else [1]
end Pq
