/-
  Polynomials, plain: noughts behind; sums of rows of one length; products entry by entry.
-/
import Derived.Test.YtmmcffceeahemaaPolyMath
set_option linter.unusedVariables false
set_option linter.unusedSimpArgs false
namespace Pq
theorem rpad_eq {qs : List Rat} {n : Nat} (h : qs.length ≤ n) : (List.range n).map (fun i => if i < n then qs.getD i 0 else 0) = qs ++ List.replicate (n - qs.length) 0 := by
  apply List.ext_getElem (by simp; omega)
  intro i h1 h2
  have hi : i < n := by simpa using h1
  simp only [List.getElem_map, List.getElem_range, if_pos hi, List.getElem_append, List.getElem_replicate]
  by_cases hq : i < qs.length
  · rw [dif_pos hq]; simp [List.getD_eq_getElem?_getD, List.getElem?_eq_getElem hq]
  · rw [dif_neg hq]; simp [List.getD_eq_getElem?_getD, List.getElem?_eq_none (Nat.le_of_not_lt hq)]
theorem E_rpad {qs : List Rat} {n : Nat} (h : qs.length ≤ n) (x : Rat) : E ((List.range n).map (fun i => if i < n then qs.getD i 0 else 0)) x = E qs x := by
  rw [rpad_eq h, E_append, E_replicate, Rat.mul_zero, Rat.add_zero]
/-- The sum of two rows of one length. -/
def zip : List Rat → List Rat → List Rat
  | a :: p, b :: q => (a + b) :: zip p q
  | _, _ => []
theorem zip_len : ∀ (p q : List Rat), p.length = q.length → (zip p q).length = p.length
  | [], [], _ => rfl
  | a :: p, b :: q, h => by simp [zip, zip_len p q (by simpa using h)]
  | [], b :: q, h => by simp at h
  | a :: p, [], h => by simp at h
theorem E_zip : ∀ (p q : List Rat) (x : Rat), p.length = q.length → E (zip p q) x = E p x + E q x
  | [], [], x, _ => by
    show (0 : Rat) = 0 + 0
    exact (Rat.add_zero 0).symm
  | a :: p, b :: q, x, h => by
    show a + b + x * E (zip p q) x = (a + x * E p x) + (b + x * E q x)
    rw [E_zip p q x (by simpa using h)]
    grind
  | [], b :: q, x, h => by simp at h
  | a :: p, [], x, h => by simp at h
/-- The sum of the padded rows means the sum. -/
theorem nm_zip {p q P Q : List Rat} (h : P.length = Q.length) (hp : ∀ x, E P x = E p x) (hq : ∀ x, E Q x = E q x) : nm (zip P Q) = nm (add p q) :=
  nm_ext fun x => by rw [E_zip P Q x h, hp, hq, E_add]
/-- The product rule, as the program asks it. -/
theorem nm_leibniz {p q P dp dq r s t : List Rat} (hP : ∀ x, E P x = E p x * E q x) (hD : ∀ x, D P x = D p x * E q x + E p x * D q x) (hp : ∀ x, E dp x = D p x) (hq : ∀ x, E dq x = D q x) {dP : List Rat} (hdP : ∀ x, E dP x = D P x) :
    nm dP = nm (add (mul dp q) (mul p dq)) :=
  nm_ext fun x => by rw [hdP, hD, E_add, E_mul, E_mul, hp, hq]
/-- The sums laid one by one. -/
def zt (p q : List Rat) (j : Nat) : List Rat := (List.range p.length).map (fun i => if i < j then p.getD i 0 + q.getD i 0 else p.getD i 0)
theorem zt_len (p q : List Rat) (j : Nat) : (zt p q j).length = p.length := by simp [zt]
theorem zip_getD : ∀ (p q : List Rat) (i : Nat), p.length = q.length → (zip p q).getD i 0 = p.getD i 0 + q.getD i 0
  | [], [], i, _ => by simp [zip, Rat.add_zero]
  | a :: p, b :: q, 0, h => by simp [zip]
  | a :: p, b :: q, i + 1, h => by simpa [zip] using zip_getD p q i (by simpa using h)
  | [], b :: q, i, h => by simp at h
  | a :: p, [], i, h => by simp at h
theorem zt_all {p q : List Rat} (h : q.length = p.length) : zt p q p.length = zip p q := by
  apply List.ext_getElem (by rw [zt_len, zip_len _ _ h.symm])
  intro i h1 h2
  have hi : i < p.length := by rw [zt_len] at h1; exact h1
  have e := zip_getD p q i h.symm
  rw [List.getD_eq_getElem?_getD, List.getElem?_eq_getElem h2, Option.getD_some] at e
  rw [e]
  simp only [zt, List.getElem_map, List.getElem_range, if_pos hi]
theorem E_zt {p q : List Rat} (h : q.length = p.length) (x : Rat) : E (zt p q p.length) x = E p x + E q x := by rw [zt_all h, E_zip _ _ _ h.symm]
theorem nm_zt {p q P Q : List Rat} (h : Q.length = P.length) (hp : ∀ x, E P x = E p x) (hq : ∀ x, E Q x = E q x) : nm (zt P Q P.length) = nm (add p q) := by rw [zt_all h]; exact nm_zip h.symm hp hq
/-- One less another one. -/
def sub (p q : List Rat) : List Rat := add p (sc (-1) q)
theorem E_sub (p q : List Rat) (x : Rat) : E (sub p q) x = E p x - E q x := by
  unfold sub
  rw [E_add, E_sc]
  grind
theorem nm_sub (p q : List Rat) : nm (add p (nm (sc (-1) q))) = nm (sub p q) := nm_ext fun x => by rw [E_sub, E_add, E_nm, E_sc]; grind
end Pq
