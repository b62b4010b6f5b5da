/-
  Polynomials, plain: how long the coefficients get, over one common lower number.
-/
import Derived.Test.YtmmcffceeahemaaPolyMath3
set_option linter.unusedVariables false
set_option linter.unusedSimpArgs false
namespace Pq
theorem powB_pos (k : Nat) : 0 < Wd.B ^ k := Nat.pow_pos Wd.B_pos
theorem pow_mul_lt {b x y j k : Nat} (h1 : x < b ^ j) (h2 : y < b ^ k) : x * y < b ^ (j + k) := by
  rw [Nat.pow_add]
  exact Nat.lt_of_le_of_lt (Nat.mul_le_mul_left _ (Nat.le_of_lt h2)) (Nat.mul_lt_mul_of_pos_right h1 (Nat.lt_of_le_of_lt (Nat.zero_le _) h2))
theorem pow_add_lt {b x y k : Nat} (hb : 2 ≤ b) (h1 : x < b ^ k) (h2 : y < b ^ k) : x + y < b ^ (k + 1) := by
  rw [Nat.pow_succ]
  have : b ^ k * 2 ≤ b ^ k * b := Nat.mul_le_mul_left _ hb
  omega
theorem B2 : 2 ≤ Wd.B := by rw [Wd.B_eq]; omega
theorem Lp.mono {p : List Rat} {j k : Nat} (h : Lp p j) (hk : j ≤ k) : Lp p k := by
  obtain ⟨d, h1, h2, N, h3, h4⟩ := h
  have := Nat.pow_le_pow_right Wd.B_pos hk
  exact ⟨d, h1, Nat.lt_of_lt_of_le h2 this, N, Nat.lt_of_lt_of_le h3 this, h4⟩
theorem Lp.one_le {p : List Rat} {k : Nat} (h : Lp p k) : 1 ≤ k := by
  obtain ⟨d, h1, h2, _⟩ := h
  rcases Nat.eq_zero_or_pos k with rfl | hk
  · rw [Nat.pow_zero] at h2; omega
  · exact hk
theorem Lp.lq {p : List Rat} {k : Nat} (h : Lp p k) : ∀ q ∈ p, Wd.Lq q k := by
  have hk := h.one_le
  obtain ⟨d, h1, h2, N, h3, h4⟩ := h
  exact fun q hq => (h4 q hq).lq h1 h2 h3 hk
theorem Lp.sub {p q : List Rat} {k : Nat} (h : Lp p k) (hq : ∀ x ∈ q, x ∈ p) : Lp q k := by
  obtain ⟨d, h1, h2, N, h3, h4⟩ := h
  exact ⟨d, h1, h2, N, h3, fun x hx => h4 x (hq x hx)⟩
theorem Lp.nil : Lp [] 1 := ⟨1, by omega, by have := B2; rw [Nat.pow_one]; omega, 0, powB_pos 1, by simp⟩
theorem Lp.cons {a : Rat} {p : List Rat} {j k : Nat} (h : Wd.Lq a j) (h' : Lp p k) : Lp (a :: p) (j + k) := by
  obtain ⟨d, h1, h2, N, h3, h4⟩ := h'
  have ha : a.num.natAbs < Wd.B ^ j := Wd.words_length_le_iff.1 h.1
  have hd : a.den < Wd.B ^ j := Wd.words_length_le_iff.1 h.2
  refine ⟨a.den * d, Nat.mul_ne_zero a.den_nz h1, pow_mul_lt hd h2, max (a.num.natAbs * d) (N * a.den), ?_, fun q hq => ?_⟩
  · have e1 := pow_mul_lt ha h2
    have e2 := pow_mul_lt h3 hd
    rw [Nat.add_comm k j] at e2
    exact Nat.max_lt.2 ⟨e1, e2⟩
  · rcases List.mem_cons.1 hq with rfl | hq
    · exact ((Cm.self q).up d).mono (Nat.le_max_left _ _)
    · have := ((h4 q hq).up a.den).mono (Nat.le_max_right (a.num.natAbs * d) (N * a.den))
      rwa [Nat.mul_comm d] at this
theorem Lp.few {k : Nat} : ∀ {p : List Rat}, (∀ q ∈ p, Wd.Lq q k) → Lp p (p.length * k + 1)
  | [], _ => Lp.nil.mono (by omega)
  | a :: p, h => by
    have := (h a (by simp)).pos
    refine (Lp.cons (h a (by simp)) (Lp.few (p := p) (fun q hq => h q (by simp [hq])))).mono ?_
    rw [List.length_cons, Nat.succ_mul]
    omega
theorem nm_mem : ∀ {p : List Rat} {x : Rat}, x ∈ nm p → x ∈ p
  | [], x, h => h
  | a :: p, x, h => by
    unfold nm at h
    split at h
    · simp at h
    · rcases List.mem_cons.1 h with rfl | h
      · simp
      · exact List.mem_cons_of_mem _ (nm_mem h)
theorem Lp.nm {p : List Rat} {k : Nat} (h : Lp p k) : Lp (nm p) k := h.sub fun _ hx => nm_mem hx
theorem Lp.sc {c : Rat} {p : List Rat} {j k : Nat} (h : Wd.Lq c j) (h' : Lp p k) : Lp (sc c p) (j + k) := by
  obtain ⟨d, h1, h2, N, h3, h4⟩ := h'
  have ha : c.num.natAbs < Wd.B ^ j := Wd.words_length_le_iff.1 h.1
  have hd : c.den < Wd.B ^ j := Wd.words_length_le_iff.1 h.2
  refine ⟨c.den * d, Nat.mul_ne_zero c.den_nz h1, pow_mul_lt hd h2, c.num.natAbs * N, pow_mul_lt ha h3, fun q hq => ?_⟩
  obtain ⟨y, hy, rfl⟩ := List.mem_map.1 hq
  exact (Cm.self c).mul (h4 y hy)
theorem Lp.scn {c : Int} {p : List Rat} {k : Nat} (hc : c.natAbs ≤ 1) (h' : Lp p k) : Lp (Pq.sc (c : Rat) p) k := by
  obtain ⟨d, h1, h2, N, h3, h4⟩ := h'
  refine ⟨d, h1, h2, N, h3, fun q hq => ?_⟩
  obtain ⟨y, hy, rfl⟩ := List.mem_map.1 hq
  obtain ⟨n, k1, k2⟩ := h4 y hy
  refine ⟨c * n, by push_cast; rw [← k1]; grind, ?_⟩
  rw [Int.natAbs_mul]
  exact Nat.le_trans (Nat.mul_le_mul hc k2) (by omega)
theorem getD_cm {d N : Nat} {p : List Rat} (h : ∀ q ∈ p, Cm d N q) (i : Nat) : Cm d N (p.getD i 0) := by
  by_cases hi : i < p.length
  · rw [List.getD_eq_getElem?_getD, List.getElem?_eq_getElem hi]; exact h _ (List.getElem_mem hi)
  · rw [List.getD_eq_getElem?_getD, List.getElem?_eq_none (by omega)]; exact Cm.zero d N
theorem add_mem : ∀ {p q : List Rat} {x : Rat}, x ∈ add p q → ∃ i, x = p.getD i 0 + q.getD i 0
  | [], q, x, h => by
    obtain ⟨i, hi, rfl⟩ := List.getElem_of_mem (show x ∈ q from h)
    exact ⟨i, by simp [List.getD_eq_getElem?_getD, List.getElem?_eq_getElem hi, Rat.zero_add]⟩
  | a :: p, [], x, h => by
    obtain ⟨i, hi, rfl⟩ := List.getElem_of_mem (show x ∈ a :: p from h)
    exact ⟨i, by simp only [List.getD_eq_getElem?_getD, List.getElem?_eq_getElem hi]; simp [Rat.add_zero]⟩
  | a :: p, b :: q, x, h => by
    rcases List.mem_cons.1 (show x ∈ (a + b) :: add p q from h) with rfl | h
    · exact ⟨0, by simp⟩
    · obtain ⟨i, e⟩ := add_mem h
      exact ⟨i + 1, by simpa using e⟩
theorem Lp.add {p q : List Rat} {j k : Nat} (h : Lp p j) (h' : Lp q k) : Lp (add p q) (j + k + 1) := by
  obtain ⟨d, h1, h2, N, h3, h4⟩ := h
  obtain ⟨e, k1, k2, M, k3, k4⟩ := h'
  refine ⟨d * e, Nat.mul_ne_zero h1 k1, Nat.lt_of_lt_of_le (pow_mul_lt h2 k2) (Nat.pow_le_pow_right Wd.B_pos (by omega)), N * e + M * d, ?_, fun x hx => ?_⟩
  · have e1 := pow_mul_lt h3 k2
    have e2 := pow_mul_lt k3 h2
    rw [Nat.add_comm k j] at e2
    exact pow_add_lt B2 e1 e2
  · obtain ⟨i, rfl⟩ := add_mem hx
    have e1 := (getD_cm h4 i).up e
    have e2 := (getD_cm k4 i).up d
    rw [Nat.mul_comm e d] at e2
    exact e1.add e2
theorem mrow_cm {d N M : Nat} {x : Rat} {q : List Rat} {i : Nat} (hx : ∀ k, Cm d M (x * q.getD k 0)) : ∀ (j : Nat) (o : List Rat), (∀ n, Cm d N (o.getD n 0)) → ∀ n, Cm d (if n < i + j ∧ i ≤ n then N + M else N) ((mrow x q i j o).getD n 0)
  | 0, o, ho, n => by
    rw [mrow, if_neg (by omega)]; exact ho n
  | j + 1, o, ho, n => by
    have ih := mrow_cm (i := i) hx j o ho
    rw [mrow, List.getD_eq_getElem?_getD, List.getElem?_set]
    by_cases e : i + j = n
    · subst e
      rw [if_pos rfl, if_pos (by omega)]
      have h0 := ih (i + j)
      rw [if_neg (by omega)] at h0
      split
      · exact h0.add (hx j)
      · exact Cm.zero _ _
    · rw [if_neg e, ← List.getD_eq_getElem?_getD]
      have h0 := ih n
      split
      · rename_i hn
        exact h0.mono (by split <;> omega)
      · rename_i hn
        rwa [if_neg (by omega)] at h0
theorem mall_cm {d e N M : Nat} {p q : List Rat} (hp : ∀ x ∈ p, Cm d N x) (hq : ∀ x ∈ q, Cm e M x) : ∀ i n, Cm (d * e) (i * (N * M)) ((mall p q i).getD n 0)
  | 0, n => by
    rw [mall, List.getD_eq_getElem?_getD, List.getElem?_replicate]
    split <;> exact Cm.zero _ _
  | i + 1, n => by
    have := mrow_cm (x := p.getD i 0) (q := q) (i := i) (fun k => (getD_cm hp i).mul (getD_cm hq k)) q.length _ (mall_cm hp hq i) n
    exact this.mono (by rw [Nat.succ_mul]; split <;> omega)
theorem count_lt {b c x k : Nat} (hc : c ≤ b) (h : x < b ^ k) (h0 : 0 < b) : c * x < b ^ (k + 1) := by
  rw [Nat.pow_succ, Nat.mul_comm]
  exact Nat.lt_of_le_of_lt (Nat.mul_le_mul_left _ hc) (Nat.mul_lt_mul_of_pos_right h h0)
/-- Whatever the program holds while it sums up a product is short. -/
theorem mul_states {p q : List Rat} {j k : Nat} (h : Lp p j) (h' : Lp q k) (hl : p.length ≤ 100000000) : ∀ i r, i < p.length → ∀ x ∈ mrow (p.getD i 0) q i r (mall p q i), Wd.Lq x (j + k + 1) := by
  have hj := h.one_le
  obtain ⟨d, h1, h2, N, h3, h4⟩ := h
  obtain ⟨e, k1, k2, M, k3, k4⟩ := h'
  intro i r hi x hx
  obtain ⟨n, hn, rfl⟩ := List.getElem_of_mem hx
  have := mrow_cm (x := p.getD i 0) (q := q) (i := i) (fun k => (getD_cm h4 i).mul (getD_cm k4 k)) r _ (mall_cm h4 k4 i) n
  rw [List.getD_eq_getElem?_getD, List.getElem?_eq_getElem hn] at this
  have hb : p.length ≤ Wd.B := by rw [Wd.B_eq]; omega
  refine (this.mono (M := p.length * (N * M)) ?_).lq (Nat.mul_ne_zero h1 k1) (Nat.lt_of_lt_of_le (pow_mul_lt h2 k2) (Nat.pow_le_pow_right Wd.B_pos (by omega))) (count_lt hb (pow_mul_lt h3 k3) Wd.B_pos) (by omega)
  have : (i + 1) * (N * M) ≤ p.length * (N * M) := Nat.mul_le_mul_right _ hi
  rw [Nat.succ_mul] at this
  split <;> omega
theorem Lp.mall {p q : List Rat} {j k : Nat} (h : Lp p j) (h' : Lp q k) (hl : p.length ≤ 100000000) : Lp (mall p q p.length) (j + k + 1) := by
  obtain ⟨d, h1, h2, N, h3, h4⟩ := h
  obtain ⟨e, k1, k2, M, k3, k4⟩ := h'
  have hb : p.length ≤ Wd.B := by rw [Wd.B_eq]; omega
  refine ⟨d * e, Nat.mul_ne_zero h1 k1, Nat.lt_of_lt_of_le (pow_mul_lt h2 k2) (Nat.pow_le_pow_right Wd.B_pos (by omega)), p.length * (N * M), count_lt hb (pow_mul_lt h3 k3) Wd.B_pos, fun x hx => ?_⟩
  obtain ⟨n, hn, rfl⟩ := List.getElem_of_mem hx
  have := mall_cm h4 k4 p.length n
  rwa [List.getD_eq_getElem?_getD, List.getElem?_eq_getElem hn] at this
theorem Lp.mul {p q : List Rat} {j k : Nat} (h : Lp p j) (h' : Lp q k) (hl : p.length ≤ 100000000) : Lp (Pq.nm (mul p q)) (j + k + 1) := by
  rw [← nm_mall]; exact (h.mall h' hl).nm
end Pq
