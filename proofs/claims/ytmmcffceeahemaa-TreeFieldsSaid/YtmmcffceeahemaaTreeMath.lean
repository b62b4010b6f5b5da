/-
  Plain lists of nodes: what an expression is, how deep, its operands. No program here.
-/
import Derived.Test.YtmmcffceeahemaaPlain
set_option linter.unusedVariables false
set_option linter.unusedSimpArgs false
namespace Tr

/-- A node. -/
structure Nd where
  op : Int
  i : Int
  n : List Nat

/-- How many operands an operation has. -/
def arN (op : Int) : Int := if 1 ≤ op ∧ op ≤ 5 then 0 else if op = 6 ∨ op = 11 then 1 else if 7 ≤ op ∧ op ≤ 10 then 2 else -1
theorem arN_cases (op : Int) : arN op = -1 ∨ arN op = 0 ∨ arN op = 1 ∨ arN op = 2 := by
  unfold arN
  split
  · simp
  · split
    · simp
    · split <;> simp

/-- The place at which nodes are no expression. -/
def wrongG : List Nd → Nat → Nat → Int
  | [], o, i => if o = 1 then -1 else i
  | x :: r, o, i => if arN x.op < 0 ∨ (o : Int) < arN x.op then i else wrongG r (o + 1 - (arN x.op).toNat) (i + 1)
def wrongN (l : List Nd) : Int := wrongG l 0 0
theorem wrongG_stop {x : Nd} {r : List Nd} {o i : Nat} (h : arN x.op < 0 ∨ (o : Int) < arN x.op) : wrongG (x :: r) o i = i := if_pos h
theorem wrongG_go {x : Nd} {r : List Nd} {o i : Nat} (h : ¬ (arN x.op < 0 ∨ (o : Int) < arN x.op)) : wrongG (x :: r) o i = wrongG r (o + 1 - (arN x.op).toNat) (i + 1) := if_neg h
theorem wrongG_range (l : List Nd) : ∀ o i, wrongG l o i = -1 ∨ ((i : Int) ≤ wrongG l o i ∧ wrongG l o i ≤ (i + l.length : Nat)) := by
  induction l with
  | nil => intro o i; unfold wrongG; split <;> simp
  | cons x r ih =>
    intro o i
    by_cases h : arN x.op < 0 ∨ (o : Int) < arN x.op
    · rw [wrongG_stop h]; right; simp only [List.length_cons]; omega
    · rw [wrongG_go h]
      rcases ih (o + 1 - (arN x.op).toNat) (i + 1) with h1 | ⟨h1, h2⟩
      · exact .inl h1
      · right; simp only [List.length_cons]; omega
theorem wrongN_range (l : List Nd) : -1 ≤ wrongN l ∧ wrongN l ≤ l.length := by
  rcases wrongG_range l 0 0 with h | ⟨h1, h2⟩
  · unfold wrongN; rw [h]; omega
  · unfold wrongN; omega

/-- An expression, and how deep it is. -/
inductive Ex : List Nd → Nat → Prop
  | leaf (x : Nd) (h : arN x.op = 0) : Ex [x] 1
  | one (x : Nd) (a : List Nd) (d : Nat) (h : arN x.op = 1) (ha : Ex a d) : Ex (a ++ [x]) (d + 1)
  | two (x : Nd) (a b : List Nd) (d e : Nat) (h : arN x.op = 2) (ha : Ex a d) (hb : Ex b e) : Ex (a ++ b ++ [x]) (max d e + 1)

theorem Ex.len {a : List Nd} {d : Nat} (h : Ex a d) : 1 ≤ d ∧ d ≤ a.length := by
  induction h with
  | leaf => simp
  | one x a d h ha ih => simp only [List.length_append, List.length_cons, List.length_nil]; omega
  | two x a b d e h ha hb iha ihb => simp only [List.length_append, List.length_cons, List.length_nil]; omega

/-- Gone through, an expression is one more. -/
theorem Ex.scan {e : List Nd} {d : Nat} (h : Ex e d) : ∀ (r : List Nd) (o i : Nat), wrongG (e ++ r) o i = wrongG r (o + 1) (i + e.length) := by
  induction h with
  | leaf x h => intro r o i; rw [List.singleton_append, wrongG_go (by omega), h]; rfl
  | one x a d h ha ih =>
    intro r o i
    rw [List.append_assoc, ih, List.singleton_append, wrongG_go (by omega), h, List.length_append, List.length_singleton]
    rfl
  | two x a b d e h ha hb iha ihb =>
    intro r o i
    rw [List.append_assoc, List.append_assoc, iha, ihb, List.singleton_append, wrongG_go (by omega), h, List.length_append, List.length_append, List.length_singleton]
    congr 1
    omega
theorem Ex.right {e : List Nd} {d : Nat} (h : Ex e d) : wrongN e = -1 := by
  have := h.scan [] 0 0
  rw [List.append_nil] at this
  unfold wrongN
  rw [this]
  rfl
theorem wrong_two {a b : List Nd} {d e : Nat} (ha : Ex a d) (hb : Ex b e) : wrongN (a ++ b) = (a ++ b).length := by
  unfold wrongN
  rw [ha.scan, ← List.append_nil b, hb.scan]
  unfold wrongG
  simp

/-- Expressions, one behind the other: their depths, the last first. -/
inductive St : List Nd → List Nat → Prop
  | nil : St [] []
  | push (l e : List Nd) (ds : List Nat) (d : Nat) (h : St l ds) (he : Ex e d) : St (l ++ e) (d :: ds)
theorem St.of_nil {l : List Nd} (h : St l []) : l = [] := by cases h; rfl
theorem St.of_cons {l : List Nd} {d : Nat} {ds : List Nat} (h : St l (d :: ds)) : ∃ m e, l = m ++ e ∧ St m ds ∧ Ex e d := by
  cases h with
  | push l e _ _ h he => exact ⟨l, e, rfl, h, he⟩
theorem St.of_one {l : List Nd} {d : Nat} (h : St l [d]) : Ex l d := by
  obtain ⟨m, e, rfl, hm, he⟩ := h.of_cons
  rw [hm.of_nil]
  exact he
theorem Ex.st {l : List Nd} {d : Nat} (h : Ex l d) : St l [d] := by
  have := St.push [] l [] d St.nil h
  simpa using this
/-- One node more. -/
def stepD (x : Nd) (ds : List Nat) : List Nat := if arN x.op = 0 then 1 :: ds else if arN x.op = 1 then (ds.getD 0 0 + 1) :: ds.drop 1 else (max (ds.getD 0 0) (ds.getD 1 0) + 1) :: ds.drop 2
theorem St.step {l : List Nd} {ds : List Nat} {x : Nd} (h : St l ds) (hx : ¬ (arN x.op < 0 ∨ (ds.length : Int) < arN x.op)) : St (l ++ [x]) (stepD x ds) ∧ (stepD x ds).length = ds.length + 1 - (arN x.op).toNat := by
  have hc : arN x.op = 0 ∨ arN x.op = 1 ∨ arN x.op = 2 := by have := arN_cases x.op; omega
  rcases hc with h0 | h0 | h0
  · unfold stepD
    rw [if_pos h0, h0]
    exact ⟨St.push _ _ _ _ h (Ex.leaf x h0), by simp⟩
  · unfold stepD
    rw [if_neg (by omega), if_pos h0, h0]
    match ds, h, hx with
    | d :: ds, h, _ =>
      obtain ⟨m, e, rfl, hm, he⟩ := h.of_cons
      rw [List.append_assoc]
      exact ⟨St.push _ _ _ _ hm (Ex.one x e d h0 he), by simp⟩
    | [], _, hx => exact absurd (.inr (by simp; omega)) hx
  · unfold stepD
    rw [if_neg (by omega), if_neg (by omega), h0]
    match ds, h, hx with
    | e :: d :: ds, h, _ =>
      obtain ⟨m, f, rfl, hm, hf⟩ := h.of_cons
      obtain ⟨k, g, rfl, hk, hg⟩ := hm.of_cons
      have h2 := St.push _ _ _ _ hk (Ex.two x g f d e h0 hg hf)
      refine ⟨?_, by simp⟩
      show St _ ((max e d + 1) :: ds)
      rw [Nat.max_comm]
      simpa [List.append_assoc] using h2
    | [_], _, hx => exact absurd (.inr (by simp; omega)) hx
    | [], _, hx => exact absurd (.inr (by simp; omega)) hx
/-- What all nodes make of it. -/
def depG : List Nd → List Nat → List Nat
  | [], ds => ds
  | x :: r, ds => depG r (stepD x ds)
theorem Ex.depG {e : List Nd} {d : Nat} (h : Ex e d) : ∀ (r : List Nd) (ds : List Nat), Tr.depG (e ++ r) ds = Tr.depG r (d :: ds) := by
  induction h with
  | leaf x h => intro r ds; simp only [List.singleton_append, Tr.depG, stepD]; rw [if_pos h]
  | one x a d h ha ih =>
    intro r ds
    rw [List.append_assoc, ih]
    simp only [List.singleton_append, Tr.depG, stepD]
    rw [if_neg (by omega), if_pos h]
    rfl
  | two x a b d e h ha hb iha ihb =>
    intro r ds
    rw [List.append_assoc, List.append_assoc, iha, ihb]
    simp only [List.singleton_append, Tr.depG, stepD]
    rw [if_neg (by omega), if_neg (by omega)]
    show Tr.depG r ((max e d + 1) :: ds) = _
    rw [Nat.max_comm]
theorem Ex.unique {l : List Nd} {d e : Nat} (h : Ex l d) (k : Ex l e) : d = e := by
  have h1 := h.depG [] []
  rw [k.depG [] []] at h1
  simp only [Tr.depG] at h1
  simpa using h1.symm
/-- What is right is an expression. -/
theorem right_st (ns : List Nd) : ∀ (l : List Nd) (ds : List Nat) (i : Nat), St l ds → wrongG ns ds.length i = -1 → ∃ d, Ex (l ++ ns) d := by
  induction ns with
  | nil =>
    intro l ds i h hw
    unfold wrongG at hw
    have h1 : ds.length = 1 := by
      by_cases h1 : ds.length = 1
      · exact h1
      · rw [if_neg h1] at hw; omega
    match ds, h1, h with
    | [d], _, h => exact ⟨d, by rw [List.append_nil]; exact h.of_one⟩
  | cons x r ih =>
    intro l ds i h hw
    by_cases hx : arN x.op < 0 ∨ (ds.length : Int) < arN x.op
    · rw [wrongG_stop hx] at hw; omega
    · rw [wrongG_go hx] at hw
      obtain ⟨h1, h2⟩ := h.step hx
      rw [← h2] at hw
      obtain ⟨d, hd⟩ := ih _ _ _ h1 hw
      exact ⟨d, by simpa using hd⟩
theorem right_ex {ns : List Nd} (h : wrongN ns < 0) : ∃ d, Ex ns d := by
  have h2 : wrongG ns 0 0 = -1 := by
    have := wrongG_range ns 0 0
    unfold wrongN at h
    omega
  have := right_st ns [] [] 0 St.nil h2
  simpa using this

/-- An expression's operands. -/
inductive Pt : List Nd → List (List Nd) → List Nat → Prop
  | leaf (x : Nd) (h : arN x.op = 0) : Pt [x] [] []
  | one (x : Nd) (a : List Nd) (d : Nat) (h : arN x.op = 1) (ha : Ex a d) : Pt (a ++ [x]) [a] [d]
  | two (x : Nd) (a b : List Nd) (d e : Nat) (h : arN x.op = 2) (ha : Ex a d) (hb : Ex b e) : Pt (a ++ b ++ [x]) [a, b] [d, e]
theorem Ex.parts {l : List Nd} {d : Nat} (h : Ex l d) : ∃ ps ds, Pt l ps ds ∧ d = ds.foldl max 0 + 1 := by
  cases h with
  | leaf x h => exact ⟨_, _, Pt.leaf x h, rfl⟩
  | one x a d h ha => exact ⟨_, _, Pt.one x a d h ha, by simp⟩
  | two x a b d e h ha hb => exact ⟨_, _, Pt.two x a b d e h ha hb, by simp⟩

/-- The last node of expressions one behind the other is taken off: so many more stand there now. -/
theorem St.back {q : List Nd} {d : Nat} {ds : List Nat} (h : St q (d :: ds)) : ∃ q' x es, q = q' ++ [x] ∧ St q' es ∧ (es.length : Int) = ds.length + arN x.op ∧ 0 ≤ arN x.op ∧ arN x.op ≤ 2 := by
  obtain ⟨m, e, rfl, hm, he⟩ := h.of_cons
  cases he with
  | leaf x h => exact ⟨m, x, ds, rfl, hm, by omega, by omega, by omega⟩
  | one x a d h ha => exact ⟨m ++ a, x, d :: ds, by simp, St.push _ _ _ _ hm ha, by simp only [List.length_cons]; omega, by omega, by omega⟩
  | two x a b d e h ha hb => exact ⟨m ++ a ++ b, x, e :: d :: ds, by simp, St.push _ _ _ _ (St.push _ _ _ _ hm ha) hb, by simp only [List.length_cons]; omega, by omega, by omega⟩
theorem St.le {q : List Nd} {ds : List Nat} (h : St q ds) : ∀ d ∈ ds, d ≤ q.length := by
  induction h with
  | nil => simp
  | push l e ds d h he ih =>
    intro x hx
    have := he.len
    rw [List.length_append]
    rcases List.mem_cons.1 hx with rfl | hx
    · omega
    · have := ih x hx; omega
theorem St.len_le {q : List Nd} {ds : List Nat} (h : St q ds) : ds.length ≤ q.length := by
  induction h with
  | nil => simp
  | push l e ds d h he ih =>
    have := he.len
    rw [List.length_append, List.length_cons]
    omega
/-- The greatest of some. -/
def maxs : List Nat → Nat
  | [] => 0
  | d :: ds => max d (maxs ds)
theorem maxs_snoc (ds : List Nat) (d : Nat) : maxs (ds ++ [d]) = max (maxs ds) d := by
  induction ds with
  | nil => simp [maxs]
  | cons e ds ih => simp only [List.cons_append, maxs, ih]; omega
theorem maxs_le {ds : List Nat} {n : Nat} (h : ∀ d ∈ ds, d ≤ n) : maxs ds ≤ n := by
  induction ds with
  | nil => exact Nat.zero_le _
  | cons e ds ih =>
    have h1 := h e (by simp)
    have h2 := ih (fun d hd => h d (by simp [hd]))
    simp only [maxs]
    omega
/-- One node more, as the program goes: its operands' depths are taken off, one more than the greatest is laid on. -/
theorem stepD_eq {x : Nd} {ds : List Nat} {m : Nat} (hm : arN x.op = m) (hl : m ≤ ds.length) : stepD x ds = (maxs (ds.take m) + 1) :: ds.drop m := by
  have hc := arN_cases x.op
  have hc : m = 0 ∨ m = 1 ∨ m = 2 := by omega
  unfold stepD
  rcases hc with rfl | rfl | rfl
  · rw [if_pos (by omega)]; simp [maxs]
  · rw [if_neg (by omega), if_pos (by omega)]
    match ds, hl with
    | d :: ds, _ => simp [maxs]
  · rw [if_neg (by omega), if_neg (by omega)]
    match ds, hl with
    | d :: e :: ds, _ => simp [maxs]
/-- A list of nodes, cut at a node. -/
theorem cut_at {p q r : List Nd} {x : Nd} {n : Nat} (hn : n = p.length + q.length) : (p ++ (q ++ [x] ++ r))[n]? = some x := by
  subst hn
  rw [List.getElem?_append_right (by omega), Nat.add_sub_cancel_left, List.append_assoc, List.getElem?_append_right (by omega), Nat.sub_self]
  rfl

theorem Pt.view {l : List Nd} {ps : List (List Nd)} {ds : List Nat} (h : Pt l ps ds) :
    (∃ x, arN x.op = 0 ∧ ps = [] ∧ ds = [] ∧ l = [] ++ [x]) ∨ (∃ x a d, arN x.op = 1 ∧ Ex a d ∧ ps = [a] ∧ ds = [d] ∧ l = a ++ [x]) ∨ (∃ x a b d e, arN x.op = 2 ∧ Ex a d ∧ Ex b e ∧ ps = [a, b] ∧ ds = [d, e] ∧ l = (a ++ b) ++ [x]) := by
  cases h with
  | leaf x h => exact .inl ⟨x, h, rfl, rfl, rfl⟩
  | one x a d h ha => exact .inr (.inl ⟨x, a, d, h, ha, rfl, rfl, rfl⟩)
  | two x a b d e h ha hb => exact .inr (.inr ⟨x, a, b, d, e, h, ha, hb, rfl, rfl, rfl⟩)
end Tr
