/-
  Quotients of polynomials, plain: cancelled, summed up, multiplied, derived; and how long they get.
-/
import Derived.Test.YtmmcffceeahemaaGreatZtPolyPlain
import Derived.Test.YtmmcffceeahemaaGreatZtPolyRaw
import Derived.Test.YtmmcffceeahemaaGreatZtShort
set_option linter.unusedVariables false
set_option linter.unusedSimpArgs false
namespace Pq
/-- Both parts; of a quotient by 0: 0 over 1. -/
def pu (p q : List Rat) : List Rat := if nm q = [] then [] else p
def pd (p q : List Rat) : List Rat := if nm q = [] then [1] else q
theorem nm_one : nm [1] = [1] := nm_of_tr (Mo.tr (g := [1]) (.inr rfl))
theorem pd_ne (p q : List Rat) : nm (pd p q) ≠ [] := by
 unfold pd
 split
 · rw [nm_one]; simp
 · rename_i h; exact h
theorem pu_of {p q : List Rat} (h : nm q ≠ []) : pu p q = p := if_neg h
theorem pd_of {p q : List Rat} (h : nm q ≠ []) : pd p q = q := if_neg h
theorem pu_len (p q : List Rat) : (pu p q).length ≤ p.length := by unfold pu; split <;> simp
theorem pd_len (p q : List Rat) : (pd p q).length ≤ max 1 q.length := by unfold pd; split <;> (try simp only [List.length_cons, List.length_nil]) <;> omega
theorem pud_lp {p q : List Rat} {u : Nat} (h : Lp (p ++ q) u) : Lp (pu p q ++ pd p q) u := by
 unfold pu pd
 split
 · exact lp_one_row.mono h.one_le
 · exact h
theorem Lp.fst {p q : List Rat} {u : Nat} (h : Lp (p ++ q) u) : Lp p u := h.sub fun x hx => List.mem_append.2 (.inl hx)
theorem Lp.snd {p q : List Rat} {u : Nat} (h : Lp (p ++ q) u) : Lp q u := h.sub fun x hx => List.mem_append.2 (.inr hx)
theorem Lp.swap {p q : List Rat} {u : Nat} (h : Lp (p ++ q) u) : Lp (q ++ p) u := h.sub fun x hx => List.mem_append.2 (List.mem_append.1 hx).symm
theorem cm_mul {d e N M : Nat} {p q : List Rat} (hp : ∀ x ∈ p, Cm d N x) (hq : ∀ x ∈ q, Cm e M x) : ∀ x ∈ nm (mul p q), Cm (d * e) (p.length * (N * M)) x := fun x hx => by
 rw [← nm_mall] at hx
 obtain ⟨n, hn, rfl⟩ := List.getElem_of_mem (nm_mem hx)
 have := mall_cm hp hq p.length n
 rwa [List.getD_eq_getElem?_getD, List.getElem?_eq_getElem hn] at this
theorem cm_sub {d N M : Nat} {p q : List Rat} (hp : ∀ x ∈ p, Cm d N x) (hq : ∀ x ∈ q, Cm d M x) : ∀ x ∈ nm (sub p q), Cm d (N + M) x := fun x hx => by
 obtain ⟨i, rfl⟩ := add_mem (nm_mem (show x ∈ nm (add p (sc (-1) q)) from hx))
 rw [sc_getD]
 have := (getD_cm hp i).sub (getD_cm hq i)
 rwa [show (-1 : Rat) * q.getD i 0 = - q.getD i 0 by grind, ← Rat.sub_eq_add_neg]
theorem cm_len {d N n m : Nat} {x : Rat} (h : Cm d (n * N) x) (hn : n ≤ m) : Cm d (m * N) x := h.mono (Nat.mul_le_mul_right _ hn)
theorem lpj {d e N M j k c : Nat} {p : List Rat} (d0 : d ≠ 0) (e0 : e ≠ 0) (hd : d < Wd.B ^ j) (he : e < Wd.B ^ k) (hN : N < Wd.B ^ j) (hM : M < Wd.B ^ k) (hc : c ≤ 4000000000) (h : ∀ x ∈ p, Cm (d * e) (c * (N * M)) x) : Lp p (j + k + 1) :=
 ⟨d * e, Nat.mul_ne_zero d0 e0, Nat.lt_of_lt_of_le (pow_mul_lt hd he) (Nat.pow_le_pow_right Wd.B_pos (by omega)), c * (N * M), count_lt (by rw [Wd.B_eq]; omega) (pow_mul_lt hN hM) Wd.B_pos, h⟩
/-- The sum of two quotients: what is cancelled. -/
def au (u d v e : List Rat) : List Rat := nm (add (nm (mul u e)) (nm (mul v d)))
theorem lp_prod {u d v e : List Rat} {j k : Nat} (h : Lp (u ++ d) j) (h' : Lp (v ++ e) k) (lu : u.length ≤ 1000) (ld : d.length ≤ 1000) : Lp (nm (mul u v) ++ nm (mul d e)) (j + k + 1) := by
 obtain ⟨d0, h1, h2, N, h3, h4⟩ := h
 obtain ⟨e0, k1, k2, M, k3, k4⟩ := h'
 refine lpj (c := 2000) h1 k1 h2 k2 h3 k3 (by omega) fun x hx => ?_
 rcases List.mem_append.1 hx with hx | hx
 · exact cm_len (cm_mul (fun x hx => h4 x (List.mem_append.2 (.inl hx))) (fun x hx => k4 x (List.mem_append.2 (.inl hx))) x hx) (by omega)
 · exact cm_len (cm_mul (fun x hx => h4 x (List.mem_append.2 (.inr hx))) (fun x hx => k4 x (List.mem_append.2 (.inr hx))) x hx) (by omega)
/-- The derivative of a quotient: what is cancelled. -/
def du (u d : List Rat) : List Rat := nm (sub (nm (mul (nm (df u)) d)) (nm (mul u (nm (df d)))))
theorem cm_df {d N : Nat} {p : List Rat} (h : ∀ q ∈ p, Cm d N q) (hl : p.length ≤ 1000) : ∀ x ∈ nm (df p), Cm d (1000 * N) x := fun x hx => by
 have := Go.Proofs.YtmmcffceeahemaaGreat.df_mem (p := p.tail) (fun q hq => h q (List.mem_of_mem_tail hq)) 1 x (nm_mem hx)
 rw [Nat.mul_comm] at this
 by_cases hp : p = []
 · subst hp; simp [df, dfl, nm] at hx
 · have := List.length_pos_iff.2 hp
   exact cm_len ‹_› (by rw [List.length_tail]; omega)
theorem lp_der {u d : List Rat} {j : Nat} (h : Lp (u ++ d) j) (lu : u.length ≤ 1000) (ld : d.length ≤ 1000) : Lp (du u d ++ nm (mul d d)) (j + j + 1) := by
 obtain ⟨d0, h1, h2, N, h3, h4⟩ := h
 have cu : ∀ x ∈ u, Cm d0 N x := fun x hx => h4 x (List.mem_append.2 (.inl hx))
 have cd : ∀ x ∈ d, Cm d0 N x := fun x hx => h4 x (List.mem_append.2 (.inr hx))
 have l1 : (nm (df u)).length ≤ 1000 := Nat.le_trans (nm_len _) (by rw [df_len]; omega)
 refine lpj (c := 2000000) h1 h1 h2 h2 h3 h3 (by omega) fun x hx => ?_
 rcases List.mem_append.1 hx with hx | hx
 · have m1 : ∀ y ∈ nm (mul (nm (df u)) d), Cm (d0 * d0) (1000000 * (N * N)) y := fun y hy => by
    have := cm_len (cm_mul (cm_df cu lu) cd y hy) l1
    rwa [show 1000 * (1000 * N * N) = 1000000 * (N * N) by rw [Nat.mul_assoc 1000 N N, ← Nat.mul_assoc]] at this
   have m2 : ∀ y ∈ nm (mul u (nm (df d))), Cm (d0 * d0) (1000000 * (N * N)) y := fun y hy => by
    have := cm_len (cm_mul cu (cm_df cd ld) y hy) lu
    rwa [show 1000 * (N * (1000 * N)) = 1000000 * (N * N) by rw [Nat.mul_left_comm N 1000 N, ← Nat.mul_assoc]] at this
   have := cm_sub m1 m2 x hx
   rwa [← Nat.add_mul] at this
 · exact cm_len (cm_mul cd cd x hx) (by omega)
theorem E_au (u d v e : List Rat) (x : Rat) : E (au u d v e) x = E u x * E e x + E v x * E d x := by unfold au; rw [E_nm, E_add, E_nm, E_nm, E_mul, E_mul]
theorem E_du (u d : List Rat) (x : Rat) : E (du u d) x = D u x * E d x - E u x * D d x := by unfold du; rw [E_nm, E_sub, E_nm, E_nm, E_mul, E_mul, E_nm, E_nm, E_df, E_df]
theorem E_nmul (u d : List Rat) (x : Rat) : E (nm (mul u d)) x = E u x * E d x := by rw [E_nm, E_mul]
theorem nmul_ne {p q : List Rat} (hp : nm p ≠ []) (hq : nm q ≠ []) : nm (nm (mul p q)) ≠ [] := by
 rw [nm_nm]
 intro e
 have h1 := ln_mul hp hq
 rw [ln_nil e] at h1
 have := ln_pos hp
 have := ln_pos hq
 omega
theorem can_of {p q g p' q' : List Rat} (hq : nm q ≠ []) (hg : In p q g) (gne : nm g ≠ []) (hp' : ∀ x, E p x = E p' x * E g x) (hq' : ∀ x, E q x = E q' x * E g x) {c : Rat} (hc : c = 1 / (nm q').getD ((nm q').length - 1) 0) : Can p q (nm (sc c p')) (nm (sc c (nm q'))) := by
 obtain ⟨s, t, hst⟩ := hg
 have hn : nm q' ≠ [] := fun e => hq (nm_nil fun x => by rw [hq', E_of_nil e, Rat.zero_mul])
 have ht := tr_nm q'
 have hm := nm_mo ht
 rw [← hc] at hm
 have htop : (nm q').getD ((nm q').length - 1) 0 ≠ 0 := by
  rcases ht with e | e
  · exact absurd e hn
  · exact e
 have hi := Rat.inv_mul_cancel _ htop
 rw [Rat.div_def, Rat.one_mul] at hc
 rw [← hc] at hi
 refine ⟨tr_nm _, by rw [hm]; exact mo_mo ht, fun e => ?_, fun x => ?_, sc ((nm q').getD ((nm q').length - 1) 0) s, sc ((nm q').getD ((nm q').length - 1) 0) t, fun x => ?_⟩
 · rw [hm] at e
   have := congrArg List.length e
   rw [mo_len] at this
   exact hn (List.eq_nil_of_length_eq_zero this)
 · rw [E_nm, E_sc, E_nm, E_sc, E_nm, hp', hq']
   grind
 · generalize (nm q').getD ((nm q').length - 1) 0 = τ at *
   have h1 : ∀ x, E (add (mul s p') (mul t q')) x = E [1] x := mul_cancel (r := g) (fun x => by
    have := hst x
    rw [hp', hq'] at this
    rw [E_add, E_mul, E_mul, E_one]
    grind) gne
   have h2 := h1 x
   rw [E_add, E_mul, E_mul, E_one] at h2
   rw [E_sc, E_sc, E_nm, E_nm, E_sc, E_sc, E_nm]
   calc _ = (c * τ) * (E s x * E p' x + E t x * E q' x) := by grind
    _ = 1 := by rw [hi, h2, Rat.one_mul]
theorem div_exact {a g : List Rat} (h : Dv g a) (hne : g ≠ []) (hm : Mo g) (x : Rat) : E a x = E (dq a g) x * E g x := by
 have hd := dqr_div (p := a) (q := g) (by rw [nm_of_tr hm.tr]; exact hne)
 rw [hd.1 x, E_of_nil (hd.exact h), Rat.add_zero]
theorem gcd_one {g : List Rat} (hm : Mo g) (hn : g ≠ []) (hl : ln g ≤ 1) (x : Rat) : E g x = 1 := by
 rw [ln_tr hm.tr] at hl
 match g, hn, hl, hm with
 | [a], _, _, .inr e =>
   have e : a = 1 := by simpa using e
   rw [e]; exact E_one x
theorem Can.self {p q U D : List Rat} (h : Can p q U D) : Can U D U D := ⟨h.tr, h.mo, h.ne, fun x => rfl, h.cop⟩
theorem Can.nd {p q U D : List Rat} (h : Can p q U D) : nm D ≠ [] := by rw [nm_of_tr h.mo.tr]; exact h.ne
theorem Can.turn {p q U D p' q' : List Rat} (hq : nm q ≠ []) (h : Can p q U D) (he : ∀ x, E p x * E q' x = E p' x * E q x) : Can p' q' U D :=
 ⟨h.tr, h.mo, h.ne, fun x => by
   have := mul_cancel (p := mul U q') (q := mul p' D) (r := q) (fun x => by
    have e1 := h.eq x
    have e2 := he x
    rw [E_mul, E_mul]
    calc E U x * E q' x * E q x = (E U x * E q x) * E q' x := by grind
     _ = (E p x * E q' x) * E D x := by rw [e1]; grind
     _ = _ := by rw [e2]; grind) hq x
   rwa [E_mul, E_mul] at this, h.cop⟩
theorem Can.dvd {p q U D : List Rat} (h : Can p q U D) : Dv D q := by
 obtain ⟨s, t, e⟩ := h.cop
 refine ⟨add (mul s p) (mul t q), fun x => ?_⟩
 have e1 := e x
 have e2 := h.eq x
 rw [E_add, E_mul, E_mul]
 calc E q x = (E s x * E U x + E t x * E D x) * E q x := by rw [e1, Rat.one_mul]
  _ = E s x * (E U x * E q x) + E t x * E D x * E q x := by grind
  _ = _ := by rw [e2]; grind
/-- The value where the lower one isn't 0. -/
theorem Can.val {p q U D : List Rat} (h : Can p q U D) {z : Rat} (hz : E q z ≠ 0) : E D z ≠ 0 ∧ E U z / E D z = E p z / E q z := by
 obtain ⟨u, hu⟩ := h.dvd
 have hD : E D z ≠ 0 := fun e => hz (by rw [hu, e, Rat.mul_zero])
 refine ⟨hD, ?_⟩
 have e := h.eq z
 have i1 := Rat.mul_inv_cancel _ hD
 have i2 := Rat.mul_inv_cancel _ hz
 rw [Rat.div_def, Rat.div_def]
 calc E U z * (E D z)⁻¹ = (E U z * E q z) * (E D z)⁻¹ * (E q z)⁻¹ := by
       calc _ = E U z * (E D z)⁻¹ * (E q z * (E q z)⁻¹) := by rw [i2, Rat.mul_one]
        _ = _ := by grind
  _ = (E D z * (E D z)⁻¹) * (E p z * (E q z)⁻¹) := by rw [e]; grind
  _ = _ := by rw [i1, Rat.one_mul]
theorem Can.zero {p q U D : List Rat} (hq : nm q ≠ []) (h : Can p q U D) : U = [] ↔ nm p = [] := by
 constructor
 · intro e
   refine no_zero (q := D) (fun x => ?_) h.nd
   rw [← h.eq, e, E_nil, Rat.zero_mul]
 · intro e
   have := no_zero (p := U) (q := q) (fun x => by rw [h.eq, E_of_nil e, Rat.zero_mul]) hq
   rwa [nm_of_tr h.tr] at this
theorem Can.len {p q U D : List Rat} (hq : nm q ≠ []) (h : Can p q U D) : D.length ≤ ln q ∧ (U.length ≤ ln p) := by
 have hd : D.length ≤ ln q := h.dvd.len h.mo.tr hq
 refine ⟨hd, ?_⟩
 by_cases hu : U = []
 · rw [hu]; simp
 have hU : nm U ≠ [] := by rw [nm_of_tr h.tr]; exact hu
 have hp : nm p ≠ [] := fun e => hu ((h.zero hq).2 e)
 have l1 := ln_mul hU hq
 have l2 := ln_mul hp h.nd
 have l3 : ln (mul U q) = ln (mul p D) := ln_ext fun x => by rw [E_mul, E_mul, h.eq]
 rw [ln_tr h.tr] at l1
 rw [ln_tr h.mo.tr] at l2
 omega
theorem D_ext {p q : List Rat} (h : ∀ x, E p x = E q x) (x : Rat) : D p x = D q x := by rw [← D_nm p, ← D_nm q, nm_ext h]
/-- The derivative of the same quotient is the same. -/
theorem der_same {p q P Q : List Rat} (h : ∀ x, E P x * E q x = E p x * E Q x) (x : Rat) : (D P x * E Q x - E P x * D Q x) * (E q x * E q x) = (D p x * E q x - E p x * D q x) * (E Q x * E Q x) := by
 have h0 := h x
 have h1 := D_ext (p := mul P q) (q := mul p Q) (fun x => by rw [E_mul, E_mul]; exact h x) x
 rw [D_mul, D_mul] at h1
 generalize D P x = a at *
 generalize D Q x = b at *
 generalize D p x = c at *
 generalize D q x = d at *
 generalize E P x = A at *
 generalize E Q x = B at *
 generalize E p x = C at *
 generalize E q x = F at *
 calc (a * B - A * b) * (F * F) = (a * F + A * d) * (B * F) - (A * F) * (b * F) - (A * F) * (d * B) := by grind
  _ = (c * B + C * b) * (B * F) - (C * B) * (b * F) - (C * B) * (d * B) := by rw [h0, h1]
  _ = _ := by grind
/-- Sums. -/
theorem Can.sum {u d v e U D V F P Q : List Rat} (hd : nm d ≠ []) (he : nm e ≠ []) (h1 : Can u d U D) (h2 : Can v e V F) (h3 : Can (au u d v e) (nm (mul d e)) P Q) : Can (au U D V F) (nm (mul D F)) P Q :=
 h3.turn (nmul_ne hd he) fun x => by
  have e1 := h1.eq x
  have e2 := h2.eq x
  rw [E_au, E_au, E_nmul, E_nmul]
  calc (E u x * E e x + E v x * E d x) * (E D x * E F x) = (E u x * E D x) * E e x * E F x + (E v x * E F x) * E d x * E D x := by grind
   _ = (E U x * E d x) * E e x * E F x + (E V x * E e x) * E d x * E D x := by rw [e1, e2]
   _ = _ := by grind
theorem Can.over {u d v e U D V F P Q : List Rat} (hd : nm d ≠ []) (hv : nm v ≠ []) (h1 : Can u d U D) (h2 : Can v e V F) (h3 : Can (nm (mul u e)) (nm (mul d v)) P Q) : Can (nm (mul U F)) (nm (mul D V)) P Q :=
 h3.turn (nmul_ne hd hv) fun x => by
  have e1 := h1.eq x
  have e2 := h2.eq x
  rw [E_nmul, E_nmul, E_nmul, E_nmul]
  calc (E u x * E e x) * (E D x * E V x) = (E u x * E D x) * (E V x * E e x) := by grind
   _ = (E U x * E d x) * (E v x * E F x) := by rw [e1, e2]
   _ = _ := by grind
theorem Can.der {u d U D P Q : List Rat} (hd : nm d ≠ []) (h1 : Can u d U D) (h3 : Can (du u d) (nm (mul d d)) P Q) : Can (du U D) (nm (mul D D)) P Q :=
 h3.turn (nmul_ne hd hd) fun x => by
  have := der_same (p := u) (q := d) (P := U) (Q := D) h1.eq x
  rw [E_du, E_du, E_nmul, E_nmul]
  exact this.symm
end Pq
