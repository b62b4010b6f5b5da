/-
  Polynomials, plain: lengths of products, division and its uniqueness, the common divisor.
-/
import Derived.Test.YtmmcffceeahemaaPolySize
set_option linter.unusedVariables false
set_option linter.unusedSimpArgs false
namespace Pq
theorem add_len : ∀ p q : List Rat, (add p q).length = max p.length q.length
  | [], q => by simp [add]
  | a :: p, [] => by simp [add]
  | a :: p, b :: q => by simp [add, add_len p q]
theorem add_getD : ∀ (p q : List Rat) (i : Nat), (add p q).getD i 0 = p.getD i 0 + q.getD i 0
  | [], q, i => by simp [add, Rat.zero_add]
  | a :: p, [], i => by simp [add, Rat.add_zero]
  | a :: p, b :: q, 0 => by simp [add]
  | a :: p, b :: q, i + 1 => by simpa [add] using add_getD p q i
theorem sc_len (c : Rat) (p : List Rat) : (sc c p).length = p.length := by simp [sc]
theorem sc_getD (c : Rat) (p : List Rat) (i : Nat) : (sc c p).getD i 0 = c * p.getD i 0 := by
  by_cases hi : i < p.length
  · simp [sc, List.getD_eq_getElem?_getD, List.getElem?_eq_getElem hi]
  · simp [sc, List.getD_eq_getElem?_getD, List.getElem?_eq_none (Nat.le_of_not_lt hi)]
theorem getD_out {p : List Rat} {i : Nat} (h : p.length ≤ i) : p.getD i 0 = 0 := by simp [List.getD_eq_getElem?_getD, List.getElem?_eq_none h]
theorem mul_len : ∀ (p q : List Rat), p ≠ [] → q ≠ [] → (mul p q).length + 1 = p.length + q.length
  | [], q, h, _ => absurd rfl h
  | [a], q, _, hq => by
    have := List.length_pos_iff.2 hq
    simp only [mul, add_len, sc_len, List.length_cons, List.length_nil]; omega
  | a :: b :: p, q, _, hq => by
    have := List.length_pos_iff.2 hq
    have ih := mul_len (b :: p) q (by simp) hq
    rw [mul, add_len, sc_len]
    simp only [List.length_cons] at ih ⊢
    omega
theorem mul_top : ∀ (p q : List Rat), p ≠ [] → q ≠ [] → (mul p q).getD (p.length - 1 + (q.length - 1)) 0 = p.getD (p.length - 1) 0 * q.getD (q.length - 1) 0
  | [], q, h, _ => absurd rfl h
  | [a], q, _, hq => by
    rw [mul, add_getD, sc_getD, mul]
    have e : (([0] : List Rat)).getD (([a] : List Rat).length - 1 + (q.length - 1)) 0 = 0 := by
      cases h : ([a] : List Rat).length - 1 + (q.length - 1) <;> simp
    rw [e, Rat.add_zero]
    simp
  | a :: b :: p, q, _, hq => by
    have hq' := List.length_pos_iff.2 hq
    have ih := mul_top (b :: p) q (by simp) hq
    rw [mul, add_getD, sc_getD]
    have e1 : (a :: b :: p).length - 1 + (q.length - 1) = ((b :: p).length - 1 + (q.length - 1)) + 1 := by simp only [List.length_cons]; omega
    have e2 : (a :: b :: p).length - 1 = ((b :: p).length - 1) + 1 := by simp only [List.length_cons]; omega
    rw [e1, getD_out (p := q) (by simp only [List.length_cons]; omega), e2, List.getD_cons_succ, List.getD_cons_succ, ih, Rat.mul_zero, Rat.zero_add]
/-- Right ones: none, or the last one is not 0. -/
def Tr (p : List Rat) : Prop := p = [] ∨ p.getD (p.length - 1) 0 ≠ 0
theorem nm_of_tr {p : List Rat} (h : Tr p) : nm p = p := by
  have := nm_take (p := p) (n := p.length) (Nat.le_refl _) (fun i hi => getD_out hi) (by
    rcases h with rfl | h
    · exact .inl rfl
    · exact .inr h)
  rwa [List.take_length] at this
theorem tr_of_nm : ∀ {p : List Rat}, nm p = p → Tr p
  | [], _ => .inl rfl
  | [a], h => by
    refine .inr ?_
    simp only [nm] at h
    split at h
    · cases h
    · rename_i hh
      simpa using hh
  | a :: b :: p, h => by
    have h2 : nm (b :: p) = b :: p := by
      have h3 : (if a = 0 ∧ nm (b :: p) = [] then [] else a :: nm (b :: p)) = a :: b :: p := h
      split at h3
      · cases h3
      · exact (List.cons.inj h3).2
    rcases tr_of_nm h2 with h4 | h4
    · cases h4
    · refine .inr ?_
      have e2 : (a :: b :: p).length - 1 = ((b :: p).length - 1) + 1 := by simp only [List.length_cons]; omega
      rw [e2, List.getD_cons_succ]
      exact h4
theorem tr_nm (p : List Rat) : Tr (nm p) := tr_of_nm (nm_nm p)
theorem tr_mul {p q : List Rat} (hp : Tr p) (hq : Tr q) (h1 : p ≠ []) (h2 : q ≠ []) : Tr (mul p q) ∧ mul p q ≠ [] := by
  have hl := mul_len p q h1 h2
  have h3 := List.length_pos_iff.2 h1
  have h4 := List.length_pos_iff.2 h2
  have ne : mul p q ≠ [] := by intro e; rw [e] at hl; simp at hl; omega
  refine ⟨.inr ?_, ne⟩
  rw [show (mul p q).length - 1 = p.length - 1 + (q.length - 1) by omega, mul_top p q h1 h2]
  intro e
  rcases Rat.mul_eq_zero.1 e with e | e
  · exact hp.elim h1 (fun h => h e)
  · exact hq.elim h2 (fun h => h e)
theorem nm_mul {p q : List Rat} (hp : Tr p) (hq : Tr q) (h1 : p ≠ []) (h2 : q ≠ []) : nm (mul p q) = mul p q := nm_of_tr (tr_mul hp hq h1 h2).1
/-- Polynomials with the same values. -/
theorem tr_ext {p q : List Rat} (hp : Tr p) (hq : Tr q) (h : ∀ x, E p x = E q x) : p = q := by
  have := nm_ext h
  rwa [nm_of_tr hp, nm_of_tr hq] at this
theorem nm_nil {p : List Rat} (h : ∀ x, E p x = 0) : nm p = [] := nm_ext (q := []) (fun x => by rw [h]; rfl)
theorem E_nil (x : Rat) : E [] x = 0 := rfl
theorem E_of_nil {p : List Rat} (h : nm p = []) (x : Rat) : E p x = 0 := by rw [← E_nm, h]; rfl
/-- What is divided. -/
def IsDiv (a b q r : List Rat) : Prop := (∀ x, E a x = E q x * E b x + E r x) ∧ (nm r).length < (nm b).length
theorem IsDiv.unique {a b q r q' r' : List Rat} (h : IsDiv a b q r) (h' : IsDiv a b q' r') : nm q = nm q' ∧ nm r = nm r' := by
  have hb : nm b ≠ [] := by intro e; have := h.2; rw [e] at this; simp at this
  have hD : nm (add q (sc (-1) q')) = [] := by
    apply Classical.byContradiction
    intro hne
    have e : nm (mul (nm (add q (sc (-1) q'))) (nm b)) = nm (add (nm r') (sc (-1) (nm r))) := nm_ext fun x => by
      have e1 := h.1 x
      have e2 := h'.1 x
      rw [E_mul, E_nm, E_nm, E_add, E_sc, E_add, E_sc, E_nm, E_nm]
      grind
    rw [nm_mul (tr_nm _) (tr_nm _) hne hb] at e
    have l1 := mul_len _ _ hne hb
    have l2 := nm_len (add (nm r') (sc (-1) (nm r)))
    rw [add_len, sc_len] at l2
    rw [e] at l1
    have l3 := List.length_pos_iff.2 hne
    have := h.2
    have := h'.2
    omega
  have hq : ∀ x, E q x = E q' x := fun x => by
    have := E_of_nil hD x
    rw [E_add, E_sc] at this
    grind
  refine ⟨nm_ext hq, nm_ext fun x => ?_⟩
  have e1 := h.1 x
  have e2 := h'.1 x
  rw [hq] at e1
  grind
/-- One divides another one. -/
def Dv (g a : List Rat) : Prop := ∃ u, ∀ x, E a x = E u x * E g x
/-- What both span. -/
def In (a b c : List Rat) : Prop := ∃ s t, ∀ x, E c x = E s x * E a x + E t x * E b x
def Span (a b a' b' : List Rat) : Prop := In a b a' ∧ In a b b' ∧ In a' b' a ∧ In a' b' b
theorem In.trans {a b a' b' c : List Rat} (h1 : In a b a') (h2 : In a b b') (h : In a' b' c) : In a b c := by
  obtain ⟨s1, t1, e1⟩ := h1
  obtain ⟨s2, t2, e2⟩ := h2
  obtain ⟨s, t, e⟩ := h
  refine ⟨add (mul s s1) (mul t s2), add (mul s t1) (mul t t2), fun x => ?_⟩
  rw [e, e1, e2]
  simp only [E_add, E_mul]
  grind
theorem E_one (x : Rat) : E [1] x = 1 := by simp only [E]; grind
theorem In.fst (a b : List Rat) : In a b a := ⟨[1], [], fun x => by rw [E_one, E_nil]; grind⟩
theorem In.snd (a b : List Rat) : In a b b := ⟨[], [1], fun x => by rw [E_one, E_nil]; grind⟩
theorem Span.refl (a b : List Rat) : Span a b a b := ⟨.fst a b, .snd a b, .fst a b, .snd a b⟩
theorem Span.trans {a b a' b' a'' b'' : List Rat} (h : Span a b a' b') (k : Span a' b' a'' b'') : Span a b a'' b'' :=
  ⟨h.1.trans h.2.1 k.1, h.1.trans h.2.1 k.2.1, k.2.2.1.trans k.2.2.2 h.2.2.1, k.2.2.1.trans k.2.2.2 h.2.2.2⟩
/-- Multiples by fractions other than 0 span the same. -/
theorem Span.scale {a b a' b' : List Rat} {c d : Rat} (hc : c ≠ 0) (hd : d ≠ 0) (h1 : ∀ x, E a' x = c * E a x) (h2 : ∀ x, E b' x = d * E b x) : Span a b a' b' := by
  have e : ∀ (c x : Rat), E [c] x = c := fun c x => by simp only [E]; grind
  refine ⟨⟨[c], [], fun x => ?_⟩, ⟨[], [d], fun x => ?_⟩, ⟨[c⁻¹], [], fun x => ?_⟩, ⟨[], [d⁻¹], fun x => ?_⟩⟩
  · rw [e, E_nil, h1]; grind
  · rw [e, E_nil, h2]; grind
  · rw [e, E_nil, h1, ← Rat.mul_assoc, Rat.inv_mul_cancel _ hc]; grind
  · rw [e, E_nil, h2, ← Rat.mul_assoc, Rat.inv_mul_cancel _ hd]; grind
/-- A step of the common divisor: the first one by the second one. -/
theorem Span.step {a b q r : List Rat} (h : ∀ x, E a x = E q x * E b x + E r x) : Span a b b r := by
  refine ⟨.snd a b, ⟨[1], sc (-1) q, fun x => ?_⟩, ⟨q, [1], fun x => ?_⟩, .fst b r⟩
  · rw [E_one, E_sc, h]; grind
  · rw [E_one, h]; grind
/-- The common divisor: right, its last coefficient 1 (or none), it divides both, and both span it. -/
def Mo (g : List Rat) : Prop := g = [] ∨ g.getD (g.length - 1) 0 = 1
theorem Mo.tr {g : List Rat} (h : Mo g) : Tr g := by
  rcases h with h | h
  · exact .inl h
  · exact .inr (by rw [h]; decide)
def IsGcd (a b g : List Rat) : Prop := Mo g ∧ Dv g a ∧ Dv g b ∧ In a b g
theorem IsGcd.of_span {a b g : List Rat} (h : Span a b g []) (hm : Mo g) : IsGcd a b g := by
  have dv : ∀ {c}, In g [] c → Dv g c := fun ⟨s, t, e⟩ => ⟨s, fun x => by rw [e, E_nil]; grind⟩
  exact ⟨hm, dv h.2.2.1, dv h.2.2.2, h.1⟩
theorem Dv.of_in {a b g c : List Rat} (h1 : Dv g a) (h2 : Dv g b) (h : In a b c) : Dv g c := by
  obtain ⟨u, e1⟩ := h1
  obtain ⟨v, e2⟩ := h2
  obtain ⟨s, t, e⟩ := h
  refine ⟨add (mul s u) (mul t v), fun x => ?_⟩
  rw [e, e1, e2, E_add, E_mul, E_mul]; grind
theorem Dv.len {g a : List Rat} (h : Dv g a) (hg : Tr g) (ha : nm a ≠ []) : g.length ≤ (nm a).length := by
  obtain ⟨u, e⟩ := h
  have hu : nm u ≠ [] := fun hh => ha (nm_nil fun x => by rw [e, E_of_nil hh, Rat.zero_mul])
  have hgn : g ≠ [] := fun hh => ha (nm_nil fun x => by rw [e, hh, E_nil, Rat.mul_zero])
  have e2 : nm a = nm (mul (nm u) g) := nm_ext fun x => by rw [e, E_mul, E_nm]
  rw [e2, nm_mul (tr_nm u) hg hu hgn]
  have := mul_len (nm u) g hu hgn
  have := List.length_pos_iff.2 hu
  omega
theorem Mo.unique {g h : List Rat} (hg : Mo g) (hh : Mo h) (h1 : Dv g h) (h2 : Dv h g) : g = h := by
  by_cases gn : g = []
  · subst gn
    obtain ⟨u, e⟩ := h1
    exact (tr_ext hg.tr hh.tr fun x => by rw [e, E_nil, Rat.mul_zero])
  by_cases hn : h = []
  · subst hn
    obtain ⟨u, e⟩ := h2
    exact (tr_ext hg.tr hh.tr fun x => by rw [e, E_nil, Rat.mul_zero])
  have l1 := h1.len hg.tr (by rw [nm_of_tr hh.tr]; exact hn)
  have l2 := h2.len hh.tr (by rw [nm_of_tr hg.tr]; exact gn)
  rw [nm_of_tr hh.tr] at l1
  rw [nm_of_tr hg.tr] at l2
  obtain ⟨u, e⟩ := h1
  have hu : nm u ≠ [] := fun k => hn (by rw [← nm_of_tr hh.tr]; exact nm_nil fun x => by rw [e, E_of_nil k, Rat.zero_mul])
  have e2 : h = mul (nm u) g := by
    have : nm h = nm (mul (nm u) g) := nm_ext fun x => by rw [e, E_mul, E_nm]
    rwa [nm_of_tr hh.tr, nm_mul (tr_nm u) hg.tr hu gn] at this
  have l3 := mul_len (nm u) g hu gn
  have l4 := mul_top (nm u) g hu gn
  rw [← e2] at l3 l4
  have l5 := List.length_pos_iff.2 hu
  have hu1 : (nm u).length = 1 := by omega
  have hg1 : g.getD (g.length - 1) 0 = 1 := hg.elim (fun k => absurd k gn) id
  have hh1 : h.getD (h.length - 1) 0 = 1 := hh.elim (fun k => absurd k hn) id
  rw [hu1, show 1 - 1 + (g.length - 1) = h.length - 1 by omega, hh1, hg1, Rat.mul_one] at l4
  match hv : nm u, hu1 with
  | [c], _ =>
    rw [hv] at l4 e2
    simp at l4
    subst l4
    refine tr_ext hg.tr hh.tr fun x => ?_
    rw [e2, E_mul, E_one, Rat.one_mul]
theorem IsGcd.unique {a b g h : List Rat} (hg : IsGcd a b g) (hh : IsGcd a b h) : g = h :=
  hg.1.unique hh.1 (Dv.of_in hg.2.1 hg.2.2.1 hh.2.2.2) (Dv.of_in hh.2.1 hh.2.2.1 hg.2.2.2)
theorem IsGcd.ext {a b a' b' g : List Rat} (h : IsGcd a b g) (ha : ∀ x, E a x = E a' x) (hb : ∀ x, E b x = E b' x) : IsGcd a' b' g := by
  obtain ⟨h1, ⟨u, h2⟩, ⟨v, h3⟩, s, t, h4⟩ := h
  exact ⟨h1, ⟨u, fun x => by rw [← ha]; exact h2 x⟩, ⟨v, fun x => by rw [← hb]; exact h3 x⟩, s, t, fun x => by rw [← ha, ← hb]; exact h4 x⟩
theorem IsGcd.nil {a b g : List Rat} (h : IsGcd a b g) (ha : nm a = []) (hb : nm b = []) : g = [] := by
  obtain ⟨h1, _, _, s, t, e⟩ := h
  rw [← nm_of_tr h1.tr]
  exact nm_nil fun x => by rw [e, E_of_nil ha, E_of_nil hb]; grind
theorem IsGcd.ne {a b g : List Rat} (h : IsGcd a b g) (hab : nm a ≠ [] ∨ nm b ≠ []) : g ≠ [] := by
  rintro rfl
  obtain ⟨_, ⟨u, h2⟩, ⟨v, h3⟩, _⟩ := h
  rcases hab with k | k
  · exact k (nm_nil fun x => by rw [h2, E_nil, Rat.mul_zero])
  · exact k (nm_nil fun x => by rw [h3, E_nil, Rat.mul_zero])
/-- What a divisor leaves is nothing. -/
theorem IsDiv.exact {a g q r : List Rat} (h : IsDiv a g q r) (hd : Dv g a) : nm r = [] := by
  obtain ⟨u, e⟩ := hd
  have hb : 0 < (nm g).length := by have := h.2; omega
  have : IsDiv a g u [] := ⟨fun x => by rw [e, E_nil, Rat.add_zero], by simpa [nm] using hb⟩
  exact (h.unique this).2
/-- Behind a product with a third one it is the product, but for a factor. -/
theorem IsGcd.times {a b g z h k : List Rat} (hg : IsGcd a b g) {az bz gz : List Rat} (h1 : ∀ x, E az x = E a x * E z x) (h2 : ∀ x, E bz x = E b x * E z x) (h3 : ∀ x, E gz x = E g x * E z x) (hh : IsGcd az bz h) (hk : IsGcd gz [] k) : h = k := by
  obtain ⟨_, ⟨u, e1⟩, ⟨v, e2⟩, s, t, e3⟩ := hg
  refine hh.unique ⟨hk.1, ?_, ?_, ?_⟩
  · obtain ⟨w, e⟩ := hk.2.1
    exact ⟨mul u w, fun x => by rw [h1, e1, E_mul]; have := e x; rw [h3] at this; grind⟩
  · obtain ⟨w, e⟩ := hk.2.1
    exact ⟨mul v w, fun x => by rw [h2, e2, E_mul]; have := e x; rw [h3] at this; grind⟩
  · obtain ⟨s', t', e⟩ := hk.2.2.2
    exact ⟨mul s' s, mul s' t, fun x => by rw [e, h3, e3, h1, h2, E_nil, E_mul, E_mul]; grind⟩
end Pq
