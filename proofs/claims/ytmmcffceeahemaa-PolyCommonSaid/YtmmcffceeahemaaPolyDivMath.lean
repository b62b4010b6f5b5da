/-
  Polynomials, plain: division as the program goes through it, and how long its coefficients get.
-/
import Derived.Test.YtmmcffceeahemaaPolyEuc
set_option linter.unusedVariables false
set_option linter.unusedSimpArgs false
namespace Pq
theorem mrow_getD (x : Rat) (q : List Rat) (i : Nat) : ∀ (j : Nat) (o : List Rat) (n : Nat), i + j ≤ o.length → (mrow x q i j o).getD n 0 = o.getD n 0 + (if i ≤ n ∧ n < i + j then x * q.getD (n - i) 0 else 0)
  | 0, o, n, _ => by rw [mrow, if_neg (by omega), Rat.add_zero]
  | j + 1, o, n, h => by
    have ih := mrow_getD x q i j o
    rw [mrow, List.getD_eq_getElem?_getD, List.getElem?_set]
    by_cases e : i + j = n
    · subst e
      rw [if_pos rfl, if_pos (by rw [mrow_len]; omega), if_pos (by omega), Option.getD_some, ih _ (by omega), if_neg (by omega), Rat.add_zero]
      congr 3; omega
    · rw [if_neg e, ← List.getD_eq_getElem?_getD, ih _ (by omega)]
      by_cases h1 : i ≤ n ∧ n < i + j
      · rw [if_pos h1, if_pos (by omega)]
      · rw [if_neg h1, if_neg (by omega)]
/-- The quotient's coefficient that comes next. -/
def dc (a b : List Rat) (r : List Rat) (s : Nat) : Rat := r.getD (a.length - 1 - s) 0 / b.getD (b.length - 1) 0
/-- What is left, and the quotient, behind s rounds. -/
def dst (a b : List Rat) : Nat → List Rat × List Rat
  | 0 => (a, List.replicate (a.length - b.length + 1) 0)
  | s + 1 => (mrow (-(dc a b (dst a b s).1 s)) b (a.length - b.length - s) b.length (dst a b s).1, (dst a b s).2.set (a.length - b.length - s) (dc a b (dst a b s).1 s))
theorem dst_len (a b : List Rat) : ∀ s, (dst a b s).1.length = a.length ∧ (dst a b s).2.length = a.length - b.length + 1
  | 0 => by simp [dst]
  | s + 1 => by
    have := dst_len a b s
    simp only [dst, mrow_len, List.length_set]
    exact this
theorem dst_q0 (a b : List Rat) : ∀ s i, i + s ≤ a.length - b.length → (dst a b s).2.getD i 0 = 0
  | 0, i, h => by simp [dst, List.getD_eq_getElem?_getD, List.getElem?_replicate]; split <;> rfl
  | s + 1, i, h => by
    rw [dst, List.getD_eq_getElem?_getD, List.getElem?_set, if_neg (by omega), ← List.getD_eq_getElem?_getD]
    exact dst_q0 a b s i (by omega)
theorem dst_q0' (a b : List Rat) (n : Nat) : (dst a b 0).2.getD n 0 = 0 := by
  simp [dst, List.getD_eq_getElem?_getD, List.getElem?_replicate]; split <;> rfl
theorem dst_top {a b : List Rat} (hb : b.getD (b.length - 1) 0 ≠ 0) (hl : b.length ≤ a.length) : ∀ s, s ≤ a.length - b.length + 1 → ∀ m, a.length ≤ m + s → (dst a b s).1.getD m 0 = 0
  | 0, _, m, h => getD_out (by simpa [dst] using h)
  | s + 1, hs, m, h => by
    have hb0 : b.length ≠ 0 := by
      intro e
      rw [List.length_eq_zero_iff.1 e] at hb
      simp at hb
    have ih := dst_top hb hl s (by omega)
    rw [dst, mrow_getD _ _ _ _ _ _ (by rw [(dst_len a b s).1]; omega)]
    by_cases hm : a.length ≤ m + s
    · rw [ih m hm]
      split
      · omega
      · exact Rat.add_zero 0
    · rw [if_pos (by omega), show m - (a.length - b.length - s) = b.length - 1 by omega]
      unfold dc
      rw [show a.length - 1 - s = m by omega, Rat.div_def]
      have := Rat.inv_mul_cancel _ hb
      grind
theorem dst_E {a b : List Rat} (hl : b.length ≤ a.length) (hb : b ≠ []) : ∀ s, s ≤ a.length - b.length + 1 → ∀ x, E a x = E (dst a b s).2 x * E b x + E (dst a b s).1 x
  | 0, _, x => by simp only [dst, E_replicate]; grind
  | s + 1, hs, x => by
    have hb0 := List.length_pos_iff.2 hb
    have ih := dst_E hl hb s (by omega) x
    have e1 := E_mrow (-(dc a b (dst a b s).1 s)) b (a.length - b.length - s) x b.length (dst a b s).1 (by rw [(dst_len a b s).1]; omega) (Nat.le_refl _)
    have e2 := E_set (dst a b s).2 (a.length - b.length - s) (dc a b (dst a b s).1 s) x (by rw [(dst_len a b s).2]; omega)
    rw [dst_q0 a b s _ (by omega), Rat.zero_add] at e2
    rw [List.take_length] at e1
    simp only [dst]
    rw [e1, e2, ih]
    grind
/-- What is divided, as the program does it. -/
def qt (a b : List Rat) : List Rat := (dst a b (a.length - b.length + 1)).2
def rm (a b : List Rat) : List Rat := (dst a b (a.length - b.length + 1)).1
theorem nm_le_of {p : List Rat} {n : Nat} (h : ∀ m, n ≤ m → p.getD m 0 = 0) : (nm p).length ≤ n := by
  rcases Nat.lt_or_ge n (nm p).length with h1 | h1
  · exfalso
    have e : ∀ (p : List Rat) (i : Nat), i < (nm p).length → (nm p).getD i 0 = p.getD i 0 := by
      intro p
      induction p with
      | nil => intro i hi; simp [nm] at hi
      | cons a p ih =>
        intro i hi
        unfold nm at hi ⊢
        split at hi
        · simp at hi
        · rename_i hh
          rw [if_neg hh]
          cases i with
          | zero => simp
          | succ i => simpa using ih i (by simpa using hi)
    have h2 := e p ((nm p).length - 1) (by omega)
    rw [h _ (by omega)] at h2
    rcases tr_nm p with h3 | h3
    · rw [h3] at h1; simp at h1
    · exact h3 h2
  · exact h1
theorem div_is {a b : List Rat} (ha : Tr a) (hb : Tr b) (hne : b ≠ []) (hl : b.length ≤ a.length) : IsDiv a b (qt a b) (rm a b) := by
  have hb0 := List.length_pos_iff.2 hne
  have htop : b.getD (b.length - 1) 0 ≠ 0 := hb.elim (fun k => absurd k hne) id
  refine ⟨dst_E hl hne _ (Nat.le_refl _), ?_⟩
  rw [nm_of_tr hb]
  have := nm_le_of (p := rm a b) (n := b.length - 1) (fun m hm => dst_top htop hl _ (Nat.le_refl _) m (by omega))
  omega
theorem div_lt {a b : List Rat} (h : (nm a).length < (nm b).length) : IsDiv a b [] a := ⟨fun x => by rw [E_nil]; grind, h⟩

/-- A quotient over one lower number. -/
theorem Cm.over {d e R M T' : Nat} {v t : Rat} (h : Cm d R v) {T : Int} (hT : t * (e : Rat) = (T : Rat)) (hT0 : T ≠ 0) (hT' : T.natAbs = T') : Cm (d * T') (R * e) (v / t) := by
  obtain ⟨n, h1, h2⟩ := h
  have ht0 : t ≠ 0 := by
    intro e0
    rw [e0, Rat.zero_mul] at hT
    exact hT0 (by exact_mod_cast hT.symm)
  have hsg : (T' : Rat) = (T.sign : Rat) * (T : Rat) := by
    have : (T' : Int) = T.sign * T := by rw [← hT', Int.sign_mul_self]
    exact_mod_cast this
  refine ⟨n * e * T.sign, ?_, ?_⟩
  · push_cast
    rw [← h1, hsg, ← hT, Rat.div_def]
    have := Rat.inv_mul_cancel _ ht0
    grind
  · rw [Int.natAbs_mul, Int.natAbs_mul, Int.natAbs_natCast, Int.natAbs_sign_of_ne_zero hT0, Nat.mul_one]
    exact Nat.mul_le_mul_right _ h2
theorem Cm.over_mul {d e R M T' : Nat} {v t w : Rat} (h : Cm d R v) {T : Int} (hT : t * (e : Rat) = (T : Rat)) (hT0 : T ≠ 0) (hT' : T.natAbs = T') (k : Cm e M w) : Cm (d * T') (R * M) (v / t * w) := by
  obtain ⟨n, h1, h2⟩ := h
  obtain ⟨m, k1, k2⟩ := k
  have ht0 : t ≠ 0 := by
    intro e0
    rw [e0, Rat.zero_mul] at hT
    exact hT0 (by exact_mod_cast hT.symm)
  have hsg : (T' : Rat) = (T.sign : Rat) * (T : Rat) := by
    have : (T' : Int) = T.sign * T := by rw [← hT', Int.sign_mul_self]
    exact_mod_cast this
  refine ⟨n * m * T.sign, ?_, ?_⟩
  · push_cast
    rw [← h1, ← k1, hsg, ← hT, Rat.div_def]
    have := Rat.inv_mul_cancel _ ht0
    grind
  · rw [Int.natAbs_mul, Int.natAbs_mul, Int.natAbs_sign_of_ne_zero hT0, Nat.mul_one]
    exact Nat.mul_le_mul h2 k2
/-- The multiple by the last coefficient's inverse. -/
def mo (p : List Rat) : List Rat := sc (1 / p.getD (p.length - 1) 0) p
theorem mo_mo {p : List Rat} (h : Tr p) : Mo (mo p) := by
  rcases h with rfl | h
  · exact .inl rfl
  · refine .inr ?_
    unfold mo
    rw [sc_len, sc_getD, Rat.div_def, Rat.one_mul, Rat.inv_mul_cancel _ h]
theorem mo_nil : mo [] = [] := rfl
theorem Lp.mo {p : List Rat} {k : Nat} (h : Lp p k) (ht : Tr p) : Lp (mo p) k := by
  rcases ht with rfl | ht
  · exact h
  obtain ⟨d, h1, h2, N, h3, h4⟩ := h
  have hp : p ≠ [] := by rintro rfl; simp at ht
  have hl := List.length_pos_iff.2 hp
  obtain ⟨T, t1, t2⟩ := getD_cm h4 (p.length - 1)
  have hT0 : T ≠ 0 := by
    rintro rfl
    rcases Rat.mul_eq_zero.1 (t1.trans (by rfl : (((0 : Int)) : Rat) = 0)) with e | e
    · exact ht e
    · exact h1 (by exact_mod_cast e)
  refine ⟨T.natAbs, by omega, by omega, N, h3, fun q hq => ?_⟩
  obtain ⟨y, hy, rfl⟩ := List.mem_map.1 hq
  have e1 : Cm 1 1 (1 : Rat) := ⟨1, by grind, by omega⟩
  have := e1.over_mul (R := 1) (e := d) (T := T) t1 hT0 rfl (h4 y hy)
  rwa [Nat.one_mul, Nat.one_mul] at this
theorem mrow_cm2 {d N K : Nat} {x : Rat} {q : List Rat} {i : Nat} (hx : ∀ k, Cm d K (x * q.getD k 0)) (o : List Rat) (j : Nat) (ho : ∀ n, Cm d N (o.getD n 0)) (n : Nat) : Cm d (N + K) ((mrow x q i j o).getD n 0) :=
  (mrow_cm hx j o ho n).mono (by split <;> omega)
/-- Everything that division holds, over one lower number for each round. -/
theorem dst_cm {a b : List Rat} {d e N M : Nat} (ha : ∀ x ∈ a, Cm d N x) (hb : ∀ x ∈ b, Cm e M x) (he : e ≠ 0) (htop : b.getD (b.length - 1) 0 ≠ 0) :
    ∃ T : Nat, T ≠ 0 ∧ T ≤ M ∧ ∀ s, (∀ n, Cm (d * T ^ s) (N * (2 * M) ^ s) ((dst a b s).1.getD n 0)) ∧ (∀ n, Cm (d * T ^ s) (N * e * (2 * M) ^ s) ((dst a b s).2.getD n 0)) ∧ Cm (d * T ^ (s + 1)) (N * e * (2 * M) ^ s) (dc a b (dst a b s).1 s) ∧
      ∀ k, Cm (d * T ^ (s + 1)) (N * (2 * M) ^ s * M) (-(dc a b (dst a b s).1 s) * b.getD k 0) := by
  obtain ⟨T, t1, t2⟩ := getD_cm hb (b.length - 1)
  have hT0 : T ≠ 0 := by
    rintro rfl
    rcases Rat.mul_eq_zero.1 (t1.trans (by rfl : (((0 : Int)) : Rat) = 0)) with e1 | e1
    · exact htop e1
    · exact he (by exact_mod_cast e1)
  refine ⟨T.natAbs, by omega, t2, ?_⟩
  have hM : 1 ≤ M := by omega
  have rest : ∀ s, (∀ n, Cm (d * T.natAbs ^ s) (N * (2 * M) ^ s) ((dst a b s).1.getD n 0)) → Cm (d * T.natAbs ^ (s + 1)) (N * e * (2 * M) ^ s) (dc a b (dst a b s).1 s) ∧ ∀ k, Cm (d * T.natAbs ^ (s + 1)) (N * (2 * M) ^ s * M) (-(dc a b (dst a b s).1 s) * b.getD k 0) := by
    intro s h
    refine ⟨?_, fun k => ?_⟩
    · have := (h (a.length - 1 - s)).over (M := M) (e := e) t1 hT0 rfl
      rw [Nat.mul_assoc, ← Nat.pow_succ] at this
      exact this.mono (by rw [Nat.mul_right_comm]; exact Nat.le_refl _)
    · have := ((h (a.length - 1 - s)).over_mul (e := e) t1 hT0 rfl (getD_cm hb k)).neg
      rw [Nat.mul_assoc, ← Nat.pow_succ, ← Rat.neg_mul] at this
      exact this
  intro s
  induction s with
  | zero =>
    have h0 : ∀ n, Cm (d * T.natAbs ^ 0) (N * (2 * M) ^ 0) ((dst a b 0).1.getD n 0) := fun n => by
      rw [Nat.pow_zero, Nat.pow_zero, Nat.mul_one, Nat.mul_one]; exact getD_cm ha n
    refine ⟨h0, fun n => ?_, rest 0 h0⟩
    rw [dst_q0' a b n]; exact Cm.zero _ _
  | succ s ih =>
    obtain ⟨i1, i2, i3, i4⟩ := ih
    have h0 : ∀ n, Cm (d * T.natAbs ^ (s + 1)) (N * (2 * M) ^ (s + 1)) ((dst a b (s + 1)).1.getD n 0) := fun n => by
      rw [dst]
      have := mrow_cm2 (i := a.length - b.length - s) i4 (dst a b s).1 b.length (fun n => by
        have := (i1 n).up T.natAbs
        rwa [Nat.mul_assoc, ← Nat.pow_succ] at this) n
      refine this.mono ?_
      have e1 : N * (2 * M) ^ s * T.natAbs ≤ N * (2 * M) ^ s * M := Nat.mul_le_mul_left _ t2
      have e2 : N * (2 * M) ^ (s + 1) = N * (2 * M) ^ s * M + N * (2 * M) ^ s * M := by rw [Nat.pow_succ, ← Nat.mul_assoc, Nat.mul_comm 2 M, ← Nat.mul_assoc]; omega
      omega
    refine ⟨h0, fun n => ?_, rest (s + 1) h0⟩
    rw [dst, List.getD_eq_getElem?_getD, List.getElem?_set]
    have e1 : N * e * (2 * M) ^ s ≤ N * e * (2 * M) ^ (s + 1) := Nat.mul_le_mul_left _ (Nat.pow_le_pow_right (by omega) (by omega))
    split
    · split
      · exact i3.mono e1
      · exact Cm.zero _ _
    · rw [← List.getD_eq_getElem?_getD]
      have := (i2 n).up T.natAbs
      rw [Nat.mul_assoc, ← Nat.pow_succ] at this
      refine this.mono ?_
      rw [Nat.pow_succ, ← Nat.mul_assoc]
      exact Nat.mul_le_mul_left _ (by omega)
theorem pow_lt_pow {b x k : Nat} (h : x < b ^ k) (s : Nat) (hb : 2 ≤ b) : (2 * x) ^ s ≤ b ^ (s * (k + 1)) := by
  rw [Nat.mul_comm s, Nat.pow_mul]
  refine Nat.pow_le_pow_left ?_ s
  rw [Nat.pow_succ, Nat.mul_comm 2 x]
  exact Nat.mul_le_mul (Nat.le_of_lt h) hb
theorem lt_mul_le {b x y j k : Nat} (h1 : x < b ^ j) (h2 : y ≤ b ^ k) (hb : 2 ≤ b) : x * y < b ^ (j + k) := by
  rw [Nat.pow_add]
  exact Nat.lt_of_le_of_lt (Nat.mul_le_mul_left _ h2) (Nat.mul_lt_mul_of_pos_right h1 (Nat.pow_pos (by omega)))
theorem lp_of_getD {p : List Rat} {d N k : Nat} (hd : d ≠ 0) (h1 : d < Wd.B ^ k) (h2 : N < Wd.B ^ k) (h : ∀ n, Cm d N (p.getD n 0)) : Lp p k :=
  ⟨d, hd, h1, N, h2, fun x hx => by
    obtain ⟨n, hn, rfl⟩ := List.getElem_of_mem hx
    have := h n
    rwa [List.getD_eq_getElem?_getD, List.getElem?_eq_getElem hn] at this⟩
/-- Whatever division holds is short. -/
theorem div_states {a b : List Rat} {j k : Nat} (h : Lp a j) (h' : Lp b k) (hb : Tr b) (hne : b ≠ []) (s : Nat) :
    Lp (dst a b s).1 (j + s * (k + 1)) ∧ Lp (dst a b s).2 (j + k + s * (k + 1)) ∧ Wd.Lq (dc a b (dst a b s).1 s) (j + k + (s + 1) * (k + 1)) ∧
      (∀ r, Lp (mrow (-(dc a b (dst a b s).1 s)) b (a.length - b.length - s) r (dst a b s).1) (j + (s + 1) * (k + 1))) := by
  have htop : b.getD (b.length - 1) 0 ≠ 0 := hb.elim (fun k => absurd k hne) id
  have hj := h.one_le
  obtain ⟨d, h1, h2, N, h3, h4⟩ := h
  obtain ⟨e, k1, k2, M, k3, k4⟩ := h'
  obtain ⟨T, hT0, hTM, H⟩ := dst_cm h4 k4 k1 htop
  have hb2 := B2
  have hT2 : T ≤ 2 * M := by omega
  have hTs : ∀ s, T ^ s ≤ Wd.B ^ (s * (k + 1)) := fun s => Nat.le_trans (Nat.pow_le_pow_left hT2 s) (pow_lt_pow k3 s hb2)
  have hMs : ∀ s, (2 * M) ^ s ≤ Wd.B ^ (s * (k + 1)) := fun s => pow_lt_pow k3 s hb2
  have hd0 : ∀ s, d * T ^ s ≠ 0 := fun s => Nat.mul_ne_zero h1 (Nat.ne_of_gt (Nat.pow_pos (Nat.pos_of_ne_zero hT0)))
  have hne' := pow_mul_lt h3 k2
  have up : ∀ {x a b : Nat}, x < Wd.B ^ a → a ≤ b → x < Wd.B ^ b := fun h1 h2 => Nat.lt_of_lt_of_le h1 (Nat.pow_le_pow_right Wd.B_pos h2)
  obtain ⟨i1, i2, i3, i4⟩ := H s
  refine ⟨lp_of_getD (hd0 s) (lt_mul_le h2 (hTs s) hb2) (lt_mul_le h3 (hMs s) hb2) i1, lp_of_getD (hd0 s) (up (lt_mul_le h2 (hTs s) hb2) (by omega)) (lt_mul_le hne' (hMs s) hb2) i2, ?_, fun r => ?_⟩
  · refine i3.lq (hd0 _) (up (lt_mul_le h2 (hTs (s + 1)) hb2) (by omega)) (up (lt_mul_le hne' (hMs s) hb2) ?_) (by omega)
    rw [Nat.succ_mul]; omega
  · refine lp_of_getD (N := N * (2 * M) ^ (s + 1)) (hd0 (s + 1)) (lt_mul_le h2 (hTs (s + 1)) hb2) (lt_mul_le h3 (hMs (s + 1)) hb2) fun n => ?_
    have := mrow_cm2 (i := a.length - b.length - s) i4 (dst a b s).1 r (fun n => by
      have := (i1 n).up T
      rwa [Nat.mul_assoc, ← Nat.pow_succ] at this) n
    refine this.mono ?_
    have e1 : N * (2 * M) ^ s * T ≤ N * (2 * M) ^ s * M := Nat.mul_le_mul_left _ hTM
    have e2 : N * (2 * M) ^ (s + 1) = N * (2 * M) ^ s * M + N * (2 * M) ^ s * M := by rw [Nat.pow_succ, ← Nat.mul_assoc, Nat.mul_comm 2 M, ← Nat.mul_assoc]; omega
    omega
theorem Lp.qt {a b : List Rat} {j k : Nat} (h : Lp a j) (h' : Lp b k) (hb : Tr b) (hne : b ≠ []) : Lp (qt a b) (j + k + (a.length - b.length + 1) * (k + 1)) := (div_states h h' hb hne _).2.1
theorem Lp.rm {a b : List Rat} {j k : Nat} (h : Lp a j) (h' : Lp b k) (hb : Tr b) (hne : b ≠ []) : Lp (rm a b) (j + (a.length - b.length + 1) * (k + 1)) := (div_states h h' hb hne _).1
/-- One round, told by the place in the quotient. -/
theorem dst_step {a b : List Rat} {m : Nat} (hm : m ≤ a.length - b.length) (hb : 1 ≤ b.length) (hl : b.length ≤ a.length) :
    (dst a b (a.length - b.length + 1 - (m + 1))).2.set m (dc a b (dst a b (a.length - b.length + 1 - (m + 1))).1 (a.length - b.length + 1 - (m + 1))) = (dst a b (a.length - b.length + 1 - m)).2 ∧
    mrow (-(dc a b (dst a b (a.length - b.length + 1 - (m + 1))).1 (a.length - b.length + 1 - (m + 1)))) b m b.length (dst a b (a.length - b.length + 1 - (m + 1))).1 = (dst a b (a.length - b.length + 1 - m)).1 ∧
    dc a b (dst a b (a.length - b.length + 1 - (m + 1))).1 (a.length - b.length + 1 - (m + 1)) = (dst a b (a.length - b.length + 1 - (m + 1))).1.getD (m + b.length - 1) 0 / b.getD (b.length - 1) 0 := by
  have e : a.length - b.length + 1 - m = (a.length - b.length + 1 - (m + 1)) + 1 := by omega
  have e2 : a.length - b.length - (a.length - b.length + 1 - (m + 1)) = m := by omega
  have e3 : a.length - 1 - (a.length - b.length + 1 - (m + 1)) = m + b.length - 1 := by omega
  refine ⟨?_, ?_, ?_⟩
  · rw [e]; simp only [dst]; rw [e2]
  · rw [e]; simp only [dst]; rw [e2]
  · simp only [dc]; rw [e3]
/-- All that division holds at a place in the quotient is short. -/
theorem div_small {a b : List Rat} {j k K : Nat} (h : Lp a j) (h' : Lp b k) (hb : Tr b) (hne : b ≠ []) (hK : j + k + (a.length + 1) * (k + 1) ≤ K) (hl : b.length ≤ a.length) :
    ∀ m, m ≤ a.length - b.length → (∀ x ∈ (dst a b (a.length - b.length + 1 - (m + 1))).1, Wd.Lq x K) ∧ Wd.Lq (dc a b (dst a b (a.length - b.length + 1 - (m + 1))).1 (a.length - b.length + 1 - (m + 1))) K ∧
      ∀ r, ∀ x ∈ mrow (-(dc a b (dst a b (a.length - b.length + 1 - (m + 1))).1 (a.length - b.length + 1 - (m + 1)))) b m r (dst a b (a.length - b.length + 1 - (m + 1))).1, Wd.Lq x K := by
  intro m hm
  have hb0 := List.length_pos_iff.2 hne
  have hs : a.length - b.length + 1 - (m + 1) + 1 ≤ a.length + 1 := by omega
  have e2 : a.length - b.length - (a.length - b.length + 1 - (m + 1)) = m := by omega
  obtain ⟨h1, h2, h3, h4⟩ := div_states h h' hb hne (a.length - b.length + 1 - (m + 1))
  rw [e2] at h4
  have hb1 : (a.length - b.length + 1 - (m + 1) + 1) * (k + 1) ≤ (a.length + 1) * (k + 1) := Nat.mul_le_mul_right _ hs
  have hb2 : (a.length - b.length + 1 - (m + 1)) * (k + 1) ≤ (a.length - b.length + 1 - (m + 1) + 1) * (k + 1) := Nat.mul_le_mul_right _ (by omega)
  exact ⟨fun x hx => (h1.lq x hx).mono (by omega), h3.mono (by omega), fun r x hx => ((h4 r).lq x hx).mono (by omega)⟩
/-- Quotient and rest as the program tells them. -/
def dq (p q : List Rat) : List Rat := if nm q = [] then [] else if (nm p).length < (nm q).length then [] else nm (qt (nm p) (nm q))
def dr (p q : List Rat) : List Rat := if nm q = [] then [] else if (nm p).length < (nm q).length then nm p else nm (rm (nm p) (nm q))
theorem dq_tr (p q : List Rat) : Tr (dq p q) := by
  unfold dq
  split
  · exact .inl rfl
  · split
    · exact .inl rfl
    · exact tr_nm _
theorem dr_tr (p q : List Rat) : Tr (dr p q) := by
  unfold dr
  split
  · exact .inl rfl
  · split <;> exact tr_nm _
theorem dqr_div {p q : List Rat} (h : nm q ≠ []) : IsDiv p q (dq p q) (dr p q) := by
  unfold dq dr
  rw [if_neg h, if_neg h]
  split
  · rename_i hl
    refine ⟨fun x => by rw [E_nil, E_nm]; grind, ?_⟩
    rw [nm_nm]
    exact hl
  · rename_i hl
    obtain ⟨h1, h2⟩ := div_is (tr_nm p) (tr_nm q) h (by omega)
    refine ⟨fun x => ?_, ?_⟩
    · have := h1 x
      rw [E_nm] at this
      rw [E_nm, E_nm, this, E_nm]
    · rw [nm_nm]
      rwa [nm_nm] at h2
theorem dqr_size {p q : List Rat} {j k : Nat} (hp : Lp p j) (hq : Lp q k) : Lp (dq p q) (j + k + (p.length + 1) * (k + 1)) ∧ Lp (dr p q) (j + (p.length + 1) * (k + 1)) := by
  have h1 := hp.one_le
  have hl := nm_len p
  have hm : ((nm p).length - (nm q).length + 1) * (k + 1) ≤ (p.length + 1) * (k + 1) := Nat.mul_le_mul_right _ (by omega)
  unfold dq dr
  by_cases h : nm q = []
  · rw [if_pos h, if_pos h]; exact ⟨Lp.nil.mono (by omega), Lp.nil.mono (by omega)⟩
  · rw [if_neg h, if_neg h]
    by_cases h2 : (nm p).length < (nm q).length
    · rw [if_pos h2, if_pos h2]; exact ⟨Lp.nil.mono (by omega), hp.nm.mono (by omega)⟩
    · rw [if_neg h2, if_neg h2]
      exact ⟨((hp.nm).qt hq.nm (tr_nm q) h).nm.mono (by omega), ((hp.nm).rm hq.nm (tr_nm q) h).nm.mono (by omega)⟩
end Pq
