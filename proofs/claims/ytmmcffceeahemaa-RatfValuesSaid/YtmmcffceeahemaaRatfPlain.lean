/-
  Quotients of polynomials, plain: what the statements of chapter 15 say.
-/
import Derived.Test.YtmmcffceeahemaaRatfMath
set_option linter.unusedVariables false
set_option linter.unusedSimpArgs false
namespace Pq
theorem Can.via {p q U D P Q : List Rat} (h : Can U D P Q) (h0 : Can p q U D) : Can p q P Q := h.turn h0.nd fun x => h0.eq x
theorem div_add {a b c d : Rat} (hb : b ≠ 0) (hd : d ≠ 0) : (a * d + c * b) / (b * d) = a / b + c / d := by
 have i1 := Rat.mul_inv_cancel _ hb
 have i2 := Rat.mul_inv_cancel _ hd
 rw [Rat.div_def, Rat.div_def, Rat.div_def, Rat.inv_mul_rev]
 calc (a * d + c * b) * (d⁻¹ * b⁻¹) = a * b⁻¹ * (d * d⁻¹) + c * d⁻¹ * (b * b⁻¹) := by grind
  _ = _ := by rw [i1, i2, Rat.mul_one, Rat.mul_one]
theorem div_mul_div {a b c d : Rat} : (a * c) / (b * d) = (a / b) * (c / d) := by
 rw [Rat.div_def, Rat.div_def, Rat.div_def, Rat.inv_mul_rev]
 grind
theorem mul_ne {a b : Rat} (ha : a ≠ 0) (hb : b ≠ 0) : a * b ≠ 0 := fun e => (Rat.mul_eq_zero.1 e).elim ha hb
section values
variable {P D P' D' us ds us' ds' psa qsa us3 ds3 : List Rat} {z : Rat}
theorem val_sum (hd : nm D ≠ []) (he : nm D' ≠ []) (c1 : Can P D us ds) (c2 : Can P' D' us' ds') (c3 : Can (au P D P' D') (nm (mul D D')) psa qsa) (c4 : Can psa qsa us3 ds3) (h1 : E ds z ≠ 0) (h2 : E ds' z ≠ 0) : E ds3 z ≠ 0 ∧ E us3 z / E ds3 z = E us z / E ds z + E us' z / E ds' z := by
 have h := (c4.via (Can.sum hd he c1 c2 c3)).val (z := z) (by rw [E_nmul]; exact mul_ne h1 h2)
 rw [E_au, E_nmul, div_add h1 h2] at h
 exact h
theorem val_prod (hd : nm D ≠ []) (he : nm D' ≠ []) (c1 : Can P D us ds) (c2 : Can P' D' us' ds') (c3 : Can (nm (mul P P')) (nm (mul D D')) psa qsa) (c4 : Can psa qsa us3 ds3) (h1 : E ds z ≠ 0) (h2 : E ds' z ≠ 0) : E ds3 z ≠ 0 ∧ E us3 z / E ds3 z = (E us z / E ds z) * (E us' z / E ds' z) := by
 have h := (c4.via (Can.prod hd he c1 c2 c3)).val (z := z) (by rw [E_nmul]; exact mul_ne h1 h2)
 rw [E_nmul, E_nmul, div_mul_div] at h
 exact h
theorem val_over (hd : nm D ≠ []) (he : nm P' ≠ []) (c1 : Can P D us ds) (c2 : Can P' D' us' ds') (c3 : Can (nm (mul P D')) (nm (mul D P')) psa qsa) (c4 : Can psa qsa us3 ds3) (h1 : E ds z ≠ 0) (h2 : E ds' z ≠ 0) (h3 : E us' z ≠ 0) : E ds3 z ≠ 0 ∧ (E us3 z / E ds3 z) * (E us' z / E ds' z) = E us z / E ds z := by
 have h := (c4.via (Can.over hd he c1 c2 c3)).val (z := z) (by rw [E_nmul]; exact mul_ne h1 h3)
 refine ⟨h.1, ?_⟩
 rw [h.2, E_nmul, E_nmul, ← div_mul_div]
 have i1 := Rat.mul_inv_cancel _ h2
 have i2 := Rat.mul_inv_cancel _ h3
 rw [Rat.div_def, Rat.div_def, Rat.inv_mul_rev, Rat.inv_mul_rev]
 calc _ = E us z * (E ds z)⁻¹ * (E ds' z * (E ds' z)⁻¹) * (E us' z * (E us' z)⁻¹) := by grind
  _ = _ := by rw [i1, i2, Rat.mul_one, Rat.mul_one]
end values
/-! Derivatives. -/
theorem Can.sum' {u d v e U D V F P Q : List Rat} (h1 : Can u d U D) (h2 : Can v e V F) (h3 : Can (au U D V F) (nm (mul D F)) P Q) : Can (au u d v e) (nm (mul d e)) P Q :=
 h3.turn (nmul_ne h1.nd h2.nd) fun x => by
  have e1 := h1.eq x
  have e2 := h2.eq x
  rw [E_au, E_au, E_nmul, E_nmul]
  calc (E U x * E F x + E V x * E D x) * (E d x * E e x) = (E U x * E d x) * E e x * E F x + (E V x * E e x) * E d x * E D x := by grind
   _ = (E u x * E D x) * E e x * E F x + (E v x * E F x) * E d x * E D x := by rw [e1, e2]
   _ = _ := by grind
theorem Can.prod' {u d v e U D V F P Q : List Rat} (h1 : Can u d U D) (h2 : Can v e V F) (h3 : Can (nm (mul U V)) (nm (mul D F)) P Q) : Can (nm (mul u v)) (nm (mul d e)) P Q :=
 h3.turn (nmul_ne h1.nd h2.nd) fun x => by
  have e1 := h1.eq x
  have e2 := h2.eq x
  rw [E_nmul, E_nmul, E_nmul, E_nmul]
  calc (E U x * E V x) * (E d x * E e x) = (E U x * E d x) * (E V x * E e x) := by grind
   _ = (E u x * E D x) * (E v x * E F x) := by rw [e1, e2]
   _ = _ := by grind
theorem Can.refl_of {p q : List Rat} (h : Can p q p q) : Can p q p q := h
theorem D_nmul (p q : List Rat) (x : Rat) : D (nm (mul p q)) x = D p x * E q x + E p x * D q x := by rw [D_nm, D_mul]
theorem D_au (u d v e : List Rat) (x : Rat) : D (au u d v e) x = (D u x * E e x + E u x * D e x) + (D v x * E d x + E v x * D d x) := by
 unfold au
 rw [D_nm, D_add, D_nm, D_nm, D_mul, D_mul]
section leibniz
variable {P D P' D' a1 a2 b1 b2 x1 x2 y1 y2 s1 s2 g1 g2 h1 h2 : List Rat}
theorem leib_sum (hd : nm D ≠ []) (he : nm D' ≠ []) (cA : Can (au P D P' D') (nm (mul D D')) a1 a2) (cB : Can (du a1 a2) (nm (mul a2 a2)) b1 b2) (cx : Can (du P D) (nm (mul D D)) x1 x2) (cy : Can (du P' D') (nm (mul D' D')) y1 y2) (cS : Can (au x1 x2 y1 y2) (nm (mul x2 y2)) s1 s2) : b1 = s1 ∧ b2 = s2 := by
 have hS := Can.sum' cx cy cS
 have hB : Can (au (du P D) (nm (mul D D)) (du P' D') (nm (mul D' D'))) (nm (mul (nm (mul D D)) (nm (mul D' D')))) b1 b2 := cB.turn (nmul_ne cA.nd cA.nd) fun x => by
  have e := der_same cA.eq x
  rw [E_du, E_au, E_nmul, E_nmul, E_nmul, E_nmul, E_du, E_du]
  rw [D_au, D_nmul, E_au, E_nmul] at e
  generalize (Pq.D a1 x * E a2 x - E a1 x * Pq.D a2 x) = w at *
  calc w * (E D x * E D x * (E D' x * E D' x)) = w * (E D x * E D' x * (E D x * E D' x)) := by grind
   _ = _ := by rw [e]; grind
 exact hB.unique (nmul_ne (nmul_ne hd hd) (nmul_ne he he)) hS
theorem leib_prod (hd : nm D ≠ []) (he : nm D' ≠ []) (cA : Can (nm (mul P P')) (nm (mul D D')) a1 a2) (cB : Can (du a1 a2) (nm (mul a2 a2)) b1 b2) (cx : Can (du P D) (nm (mul D D)) x1 x2) (cy : Can (du P' D') (nm (mul D' D')) y1 y2)
 (cG : Can (nm (mul x1 P')) (nm (mul x2 D')) g1 g2) (cH : Can (nm (mul P y1)) (nm (mul D y2)) h1 h2) (cS : Can (au g1 g2 h1 h2) (nm (mul g2 h2)) s1 s2) : b1 = s1 ∧ b2 = s2 := by
 have tG : Can (nm (mul (du P D) P')) (nm (mul (nm (mul D D)) D')) g1 g2 := cG.turn (nmul_ne cx.nd he) fun x => by
  have e1 := cx.eq x
  rw [E_nmul, E_nmul, E_nmul, E_nmul, E_nmul]
  rw [E_nmul] at e1
  calc E x1 x * E P' x * (E D x * E D x * E D' x) = (E x1 x * (E D x * E D x)) * (E P' x * E D' x) := by grind
   _ = _ := by rw [e1]; grind
 have tH : Can (nm (mul P (du P' D'))) (nm (mul D (nm (mul D' D')))) h1 h2 := cH.turn (nmul_ne hd cy.nd) fun x => by
  have e1 := cy.eq x
  rw [E_nmul, E_nmul, E_nmul, E_nmul, E_nmul]
  rw [E_nmul] at e1
  calc E P x * E y1 x * (E D x * (E D' x * E D' x)) = (E y1 x * (E D' x * E D' x)) * (E P x * E D x) := by grind
   _ = _ := by rw [e1]; grind
 have hS := Can.sum' tG tH cS
 have hB : Can (au (nm (mul (du P D) P')) (nm (mul (nm (mul D D)) D')) (nm (mul P (du P' D'))) (nm (mul D (nm (mul D' D'))))) (nm (mul (nm (mul (nm (mul D D)) D')) (nm (mul D (nm (mul D' D')))))) b1 b2 := cB.turn (nmul_ne cA.nd cA.nd) fun x => by
  have e := der_same cA.eq x
  rw [E_du, E_au]
  simp only [E_nmul, E_du]
  rw [D_nmul, D_nmul, E_nmul, E_nmul] at e
  generalize (Pq.D a1 x * E a2 x - E a1 x * Pq.D a2 x) = w at *
  calc w * (E D x * E D x * E D' x * (E D x * (E D' x * E D' x))) = (w * (E D x * E D' x * (E D x * E D' x))) * (E D x * E D' x) := by grind
   _ = _ := by rw [e]; grind
 exact hB.unique (nmul_ne (nmul_ne (nmul_ne hd hd) he) (nmul_ne hd (nmul_ne he he))) hS
theorem same_pair (h : b1 = s1 ∧ b2 = s2) : decide (nm (nm (mul b1 s2)) = nm (nm (mul s1 b2))) = true := by
 obtain ⟨rfl, rfl⟩ := h
 exact decide_eq_true rfl
theorem der_const {c : Rat} {R : List Rat} (hR : nm [c] = R) (h : Can (du R [1]) (nm (mul [1] [1])) x1 x2) : nm x1 = [] := by
 have hz : nm (du R [1]) = [] := nm_nil fun x => by
  rw [E_du, ← hR, D_nm]
  simp only [D, E]
  grind
 have h1 := (h.zero (nmul_ne (by rw [nm_one]; simp) (by rw [nm_one]; simp))).2 hz
 rw [h1]; rfl
end leibniz
end Pq
