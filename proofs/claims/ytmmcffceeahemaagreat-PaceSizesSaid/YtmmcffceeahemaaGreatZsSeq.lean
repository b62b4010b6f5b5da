/-
  Memory: rows of fractions, read and made.
-/
import Derived.Test.YtmmcffceeahemaaGreatZsFracHigh
import Derived.Deep.AppendLies
import Derived.Deep.RegionLaw
set_option linter.unusedVariables false
set_option linter.unusedSimpArgs false
namespace Go.Proofs.YtmmcffceeahemaaGreat
open Go.RowKit
/-- A fraction's cells: its sign, the upper number, the lower one. -/
structure F3 where
 s : Bool
 u : Value
 d : Value
def F3.agg (x : F3) : Value := .agg #[.bool x.s, x.u, x.d]
def F3.ok (x : F3) : Prop := (∃ A n c, x.u = .slice A n c) ∧ ∃ A n c, x.d = .slice A n c
def F3.zero : F3 := ⟨false, .slice none 0 0, .slice none 0 0⟩
/-- The cells of fractions, one behind the other. -/
def fcells : List F3 → List Value
 | [] => []
 | x :: l => .bool x.s :: x.u :: x.d :: fcells l
theorem fcells_len : ∀ l : List F3, (fcells l).length = l.length * 3
 | [] => by simp [fcells]
 | x :: l => by simp only [fcells, List.length_cons, fcells_len l]; omega
theorem fcells_append : ∀ l m : List F3, fcells (l ++ m) = fcells l ++ fcells m
 | [], m => rfl
 | x :: l, m => by simp only [List.cons_append, fcells, fcells_append l m]
theorem fcells_at : ∀ (l : List F3) (j : Nat) (x : F3), l[j]? = some x → (fcells l)[j * 3]? = some (.bool x.s) ∧ (fcells l)[j * 3 + 1]? = some x.u ∧ (fcells l)[j * 3 + 2]? = some x.d
 | [], j, x, h => by simp at h
 | y :: l, 0, x, h => by simp at h; subst h; simp [fcells]
 | y :: l, j + 1, x, h => by
   have := fcells_at l j x (by simpa using h)
   have e : (j + 1) * 3 = j * 3 + 1 + 1 + 1 := by omega
   rw [e]
   simp only [fcells, List.getElem?_cons_succ]
   exact this
theorem fcells_set : ∀ (l : List F3) (j : Nat) (x : F3), j < l.length → fcells (l.set j x) = (((fcells l).set (j * 3) (.bool x.s)).set (j * 3 + 1) x.u).set (j * 3 + 2) x.d
 | [], j, x, h => by simp at h
 | y :: l, 0, x, h => by simp [fcells]
 | y :: l, j + 1, x, h => by
   have := fcells_set l j x (by simpa using h)
   have e : (j + 1) * 3 = j * 3 + 1 + 1 + 1 := by omega
   rw [e]
   simp only [List.set_cons_succ, fcells, this]
variable {α : Type}
/-- Two lists go together. -/
def Al (R : F3 → α → Prop) (xs : List F3) (qs : List α) : Prop := xs.length = qs.length ∧ ∀ (j : Nat) x q, xs[j]? = some x → qs[j]? = some q → R x q
theorem Al.nil (R : F3 → α → Prop) : Al R [] [] := ⟨rfl, fun j x q h _ => by simp at h⟩
theorem Al.imp {R S : F3 → α → Prop} {xs : List F3} {qs : List α} (h : Al R xs qs) (f : ∀ x q, R x q → S x q) : Al S xs qs := ⟨h.1, fun j x q h1 h2 => f x q (h.2 j x q h1 h2)⟩
theorem Al.append {R : F3 → α → Prop} {xs ys : List F3} {qs rs : List α} (h : Al R xs qs) (k : Al R ys rs) : Al R (xs ++ ys) (qs ++ rs) := by
 refine ⟨by simp [h.1, k.1], fun j x q h1 h2 => ?_⟩
 by_cases hj : j < xs.length
 · rw [List.getElem?_append_left hj] at h1
   rw [List.getElem?_append_left (by rw [← h.1]; exact hj)] at h2
   exact h.2 j x q h1 h2
 · rw [List.getElem?_append_right (by omega)] at h1
   rw [List.getElem?_append_right (by rw [← h.1]; omega), ← h.1] at h2
   exact k.2 _ x q h1 h2
theorem Al.one {R : F3 → α → Prop} {x : F3} {q : α} (h : R x q) : Al R [x] [q] := ⟨rfl, fun j y r h1 h2 => by
 match j with
 | 0 => simp at h1 h2; subst h1 h2; exact h
 | j + 1 => simp at h1⟩
theorem Al.take {R : F3 → α → Prop} {xs : List F3} {qs : List α} (h : Al R xs qs) (n : Nat) : Al R (xs.take n) (qs.take n) := by
 refine ⟨by simp [h.1], fun j x q h1 h2 => ?_⟩
 rw [List.getElem?_take] at h1 h2
 split at h1
 · rename_i hj; rw [if_pos hj] at h2; exact h.2 j x q h1 h2
 · cases h1
theorem Al.set {R : F3 → α → Prop} {xs : List F3} {qs : List α} (h : Al R xs qs) (n : Nat) {x : F3} {q : α} (hx : R x q) : Al R (xs.set n x) (qs.set n q) := by
 refine ⟨by simp [h.1], fun j y r h1 h2 => ?_⟩
 rw [List.getElem?_set] at h1 h2
 split at h1
 · rename_i hj
   subst hj
   rw [if_pos rfl] at h2
   split at h1
   · split at h2
     · cases h1; cases h2; exact hx
     · cases h2
   · cases h1
 · rename_i hj
   rw [if_neg hj] at h2
   exact h.2 j y r h1 h2
theorem Al.at_ {R : F3 → α → Prop} {xs : List F3} {qs : List α} (h : Al R xs qs) {k : Nat} (hk : k < qs.length) : ∃ x, xs[k]? = some x ∧ R x qs[k] := by
 have hk2 : k < xs.length := by rw [h.1]; exact hk
 exact ⟨xs[k], List.getElem?_eq_getElem hk2, h.2 k _ _ (List.getElem?_eq_getElem hk2) (List.getElem?_eq_getElem hk)⟩
theorem Al.replicate {R : F3 → α → Prop} {x : F3} {q : α} (h : R x q) (n : Nat) : Al R (List.replicate n x) (List.replicate n q) :=
 ⟨by simp, fun j y r h1 h2 => by
   rw [List.getElem?_replicate] at h1 h2
   split at h1
   · rename_i hj; rw [if_pos hj] at h2; cases h1; cases h2; exact h
   · cases h1⟩
/-- A fraction's word: it is kept while words are, and tells its cells. -/
structure Kp {α : Type} (P : World → Value → α → Prop) : Prop where
 kw : ∀ {w w' : World} {v : Value} {q : α}, P w v q → Kw w w' → P w' v q
 form : ∀ {w : World} {v : Value} {q : α}, P w v q → ∃ x : F3, v = x.agg ∧ x.ok
/-- A fraction of at most so many words, and a right one. -/
def Frk (k : Nat) (w : World) (v : Value) (q : Rat) : Prop := Fr w v q k
theorem kp_fr (k : Nat) : Kp (Frk k) where
 kw := fun h hk => Fr.kw h hk
 form := fun h => by
  obtain ⟨s, u, d, l, m, rfl, hl, hm, _⟩ := h
  exact ⟨⟨s, u, d⟩, rfl, hl.shape, hm.shape⟩
theorem F3.agg_inj {x y : F3} (h : x.agg = y.agg) : x = y := by
 cases x; cases y
 simp [F3.agg] at h
 obtain ⟨rfl, rfl, rfl⟩ := h
 rfl
/-- A row of fractions that can be read. -/
def Sq (P : World → Value → α → Prop) (w : World) (v : Value) (qs : List α) : Prop :=
 ∃ A c xs, v = .slice A qs.length c ∧ qs.length ≤ c ∧ c ≤ maxLen ∧ Al (fun x q => P w x.agg q) xs qs ∧ RdV w A (fcells xs)
theorem Sq.up {P : World → Value → α → Prop} (kp : Kp P) {w w' : World} {v : Value} {qs : List α} (h : Sq P w v qs) (hu : Up w w') : Sq P w' v qs := by
 obtain ⟨A, c, xs, h1, h2, h3, h4, h5⟩ := h
 exact ⟨A, c, xs, h1, h2, h3, h4.imp fun x q hx => kp.kw hx hu.kw, h5.up hu⟩
theorem Sq.imp {P Q : World → Value → α → Prop} {w : World} {v : Value} {qs : List α} (h : Sq P w v qs) (f : ∀ {v q}, P w v q → Q w v q) : Sq Q w v qs := by
 obtain ⟨A, c, xs, h1, h2, h3, h4, h5⟩ := h
 exact ⟨A, c, xs, h1, h2, h3, h4.imp fun x q hx => f hx, h5⟩
theorem Sq.form {P : World → Value → α → Prop} {w : World} {v : Value} {qs : List α} (h : Sq P w v qs) : ∃ A c, v = .slice A qs.length c := by obtain ⟨A, c, xs, h1, _⟩ := h; exact ⟨A, c, h1⟩
theorem Sq.nil (P : World → Value → α → Prop) (w : World) : Sq P w (.slice none 0 0) [] := ⟨none, 0, [], rfl, by simp, by simp, Al.nil _, fun h => absurd h (by simp [fcells])⟩
/-- The fraction at a place. -/
theorem Sq.at_ {P : World → Value → α → Prop} (kp : Kp P) {w : World} {A : Option Addr} {n c : Nat} {qs : List α} (h : Sq P w (.slice A n c) qs) {k : Nat} (hk : k < qs.length) :
 ∃ b o s B m f D n' f', A = some ⟨b, o, none⟩ ∧ b < w.heap.size ∧ w.cell? ⟨b, o + k * 3, none⟩ = some (.bool s) ∧ w.cell? ⟨b, o + k * 3 + 1, none⟩ = some (.slice B m f) ∧ w.cell? ⟨b, o + k * 3 + 2, none⟩ = some (.slice D n' f') ∧ P w (.agg #[.bool s, .slice B m f, .slice D n' f']) qs[k] := by
 obtain ⟨A', c', xs, h1, h2, h3, h4, h5⟩ := h
 cases h1
 obtain ⟨x, hx, hp⟩ := h4.at_ hk
 obtain ⟨q1, q2, q3⟩ := fcells_at xs k x hx
 obtain ⟨y, e, ⟨B, m, f, e1⟩, ⟨D, n', f', e2⟩⟩ := kp.form hp
 have e := F3.agg_inj e
 subst e
 have hl : 0 < (fcells xs).length := by rw [fcells_len, h4.1]; omega
 obtain ⟨b, o, rfl, hb, hc⟩ := h5 hl
 have c2 := hc _ _ q2
 have c3 := hc _ _ q3
 rw [e1] at c2
 rw [e2] at c3
 refine ⟨b, o, x.s, B, m, f, D, n', f', rfl, hb, hc _ _ q1, c2, c3, ?_⟩
 rw [← e1, ← e2]
 exact hp
/-- A row of the call's own: it lies at the head of a block, behind which are fractions too. -/
def RowF (T : TypeId) (base : Nat) (w : World) (v : Value) (xs : List F3) : Prop :=
 (∀ x ∈ xs, x.ok) ∧ ((v = .slice none 0 0 ∧ xs = []) ∨ ∃ g ys, v = .slice (some ⟨g, 0, none⟩) xs.length (xs.length + ys.length) ∧ base ≤ g ∧ Bx T w g (fcells (xs ++ ys)) ∧ (∀ y ∈ ys, y.ok) ∧ xs.length + ys.length ≤ maxLen)
theorem RowF.nil (T : TypeId) (base : Nat) (w : World) : RowF T base w (.slice none 0 0) [] := ⟨by simp, .inl ⟨rfl, rfl⟩⟩
theorem RowF.own {T : TypeId} {base : Nat} {w : World} {v : Value} {xs : List F3} (h : RowF T base w v xs) : w.ownsRow base T 3 v xs.length (fcells xs) := by
 refine ⟨fcells_len xs, ?_⟩
 rcases h.2 with ⟨rfl, rfl⟩ | ⟨g, ys, rfl, hb, hx, hy, hm⟩
 · exact .inl ⟨rfl, rfl⟩
 · refine .inr ⟨g, _, _, rfl, hb, hx, by omega, hm, ?_, ?_⟩
   · simp [fcells_len]
   · rw [fcells_append]
     simp only [List.take_left' (fcells_len xs)]
theorem RowF.kept {T : TypeId} {base : Nat} {w w' : World} {v : Value} {xs : List F3} {row : Option Nat} (h : RowF T base w v xs) (hg : w.grownBy w' row) (hne : v.ownBlock = none ∨ v.ownBlock ≠ row) : RowF T base w' v xs := by
 refine ⟨h.1, ?_⟩
 rcases h.2 with h2 | ⟨g, ys, rfl, hb, hx, hy, hm⟩
 · exact .inl h2
 · exact .inr ⟨g, ys, rfl, hb, (hg.block g hx.lt (by simpa [Value.ownBlock] using hne)).trans hx, hy, hm⟩
theorem grown_up {w w' : World} (h : Up w w') (row : Option Nat) : w.grownBy w' row := ⟨h.os, h.tape, h.output, h.size, fun k hk _ => h.block k hk⟩
theorem RowF.up {T : TypeId} {base : Nat} {w w' : World} {v : Value} {xs : List F3} (h : RowF T base w v xs) (hu : Up w w') : RowF T base w' v xs := h.kept (row := none) (grown_up hu none) (by cases v.ownBlock <;> simp)
theorem RowF.rd {T : TypeId} {base : Nat} {w : World} {A : Option Addr} {n c : Nat} {xs : List F3} (h : RowF T base w (.slice A n c) xs) : RdV w A (fcells xs) := by
 obtain ⟨A', c', e, _⟩ := own_form h.own
 cases e
 exact RdV.of_own h.own
/-- A row of the call's own that reads as fractions. -/
def OwnQ (P : World → Value → α → Prop) (T : TypeId) (base : Nat) (w : World) (v : Value) (qs : List α) : Prop := ∃ xs, Al (fun x q => P w x.agg q) xs qs ∧ RowF T base w v xs
theorem OwnQ.nil (P : World → Value → α → Prop) (T : TypeId) (base : Nat) (w : World) : OwnQ P T base w (.slice none 0 0) [] := ⟨[], Al.nil _, RowF.nil T base w⟩
theorem OwnQ.sq {P : World → Value → α → Prop} {T : TypeId} {base : Nat} {w : World} {v : Value} {qs : List α} (h : OwnQ P T base w v qs) : Sq P w v qs := by
 obtain ⟨xs, ha, hr⟩ := h
 have hf : ∃ A c, v = .slice A qs.length c ∧ qs.length ≤ c ∧ c ≤ maxLen := by
  rcases hr.2 with ⟨rfl, rfl⟩ | ⟨g, ys, rfl, hb, hx, hy, hm⟩
  · have : qs.length = 0 := by rw [← ha.1]; rfl
    exact ⟨none, 0, by rw [this], by omega, by simp⟩
  · exact ⟨_, _, by rw [ha.1], by rw [ha.1]; omega, hm⟩
 obtain ⟨A, c, rfl, h1, h2⟩ := hf
 exact ⟨A, c, xs, rfl, h1, h2, ha, hr.rd⟩
theorem OwnQ.form {P : World → Value → α → Prop} {T : TypeId} {base : Nat} {w : World} {v : Value} {qs : List α} (h : OwnQ P T base w v qs) : ∃ A c, v = .slice A qs.length c := h.sq.form
theorem OwnQ.kept {P : World → Value → α → Prop} (kp : Kp P) {T : TypeId} {base : Nat} {w w' : World} {v : Value} {qs : List α} {row : Option Nat} (h : OwnQ P T base w v qs) (hk : Kw w w') (hg : w.grownBy w' row) (hne : v.ownBlock = none ∨ v.ownBlock ≠ row) : OwnQ P T base w' v qs := by
 obtain ⟨xs, ha, hr⟩ := h
 exact ⟨xs, ha.imp fun x q hx => kp.kw hx hk, hr.kept hg hne⟩
theorem OwnQ.up {P : World → Value → α → Prop} (kp : Kp P) {T : TypeId} {base : Nat} {w w' : World} {v : Value} {qs : List α} (h : OwnQ P T base w v qs) (hu : Up w w') : OwnQ P T base w' v qs := h.kept kp hu.kw (grown_up hu none) (by cases v.ownBlock <;> simp)
theorem OwnQ.lt {P : World → Value → α → Prop} {T : TypeId} {base : Nat} {w : World} {v : Value} {qs : List α} (h : OwnQ P T base w v qs) : ∀ k, v.ownBlock = some k → base ≤ k ∧ k < w.heap.size := by
 obtain ⟨xs, ha, hr⟩ := h
 exact hr.own.lt
theorem OwnQ.imp {P Q : World → Value → α → Prop} {T : TypeId} {base : Nat} {w : World} {v : Value} {qs : List α} (h : OwnQ P T base w v qs) (f : ∀ {v q}, P w v q → Q w v q) : OwnQ Q T base w v qs := by
 obtain ⟨xs, ha, hr⟩ := h
 exact ⟨xs, ha.imp fun x q hx => f hx, hr⟩
/-- The fraction at a place of a row of the call's own, and a store to it. -/
theorem OwnQ.at_ {P : World → Value → α → Prop} (kp : Kp P) {T : TypeId} {base : Nat} {w : World} {A : Option Addr} {n c : Nat} {qs : List α} (h : OwnQ P T base w (.slice A n c) qs) {k : Nat} (hk : k < qs.length) :
 ∃ g s B m f D n' f', A = some ⟨g, 0, none⟩ ∧ base ≤ g ∧ g < w.heap.size ∧ w.cell? ⟨g, k * 3, none⟩ = some (.bool s) ∧ w.cell? ⟨g, k * 3 + 1, none⟩ = some (.slice B m f) ∧ w.cell? ⟨g, k * 3 + 2, none⟩ = some (.slice D n' f') ∧ P w (.agg #[.bool s, .slice B m f, .slice D n' f']) qs[k] ∧ (∀ i, w.frozen? ⟨g, i, none⟩ = false) := by
 obtain ⟨b, o, s, B, m, f, D, n', f', e, hb, c1, c2, c3, hp⟩ := h.sq.at_ kp hk
 obtain ⟨xs, ha, hr⟩ := h
 rcases hr.2 with ⟨e2, rfl⟩ | ⟨g, ys, e2, hbg, hx, hy, hm⟩
 · rw [← ha.1] at hk; simp at hk
 · subst e
   cases e2
   rw [Nat.zero_add] at c1 c2 c3
   exact ⟨_, s, B, m, f, D, n', f', rfl, hbg, hb, c1, c2, c3, hp, fun i => hx.free i⟩
theorem OwnQ.store {P : World → Value → α → Prop} (kp : Kp P) {T : TypeId} {w0 w : World} {g n c : Nat} {qs : List α} (h : OwnQ P T w0.heap.size w (.slice (some ⟨g, 0, none⟩) n c) qs) (hu : Up w0 w) {k : Nat} (hk : k < qs.length) {s : Bool} {u d : Value} {q : α} (hq : P w (.agg #[.bool s, u, d]) q) :
 OwnQ P T w0.heap.size (((w.setCell ⟨g, k * 3, none⟩ (.bool s)).setCell ⟨g, k * 3 + 1, none⟩ u).setCell ⟨g, k * 3 + 2, none⟩ d) (.slice (some ⟨g, 0, none⟩) n c) (qs.set k q) ∧ Kw w (((w.setCell ⟨g, k * 3, none⟩ (.bool s)).setCell ⟨g, k * 3 + 1, none⟩ u).setCell ⟨g, k * 3 + 2, none⟩ d) ∧
  w.grownBy (((w.setCell ⟨g, k * 3, none⟩ (.bool s)).setCell ⟨g, k * 3 + 1, none⟩ u).setCell ⟨g, k * 3 + 2, none⟩ d) (some g) ∧ Up w0 (((w.setCell ⟨g, k * 3, none⟩ (.bool s)).setCell ⟨g, k * 3 + 1, none⟩ u).setCell ⟨g, k * 3 + 2, none⟩ d) := by
 obtain ⟨xs, ha, hr⟩ := h
 obtain ⟨z, e, hz⟩ := kp.form hq
 obtain ⟨rfl, rfl, rfl⟩ : s = z.s ∧ u = z.u ∧ d = z.d := by
  simp [F3.agg] at e
  exact e
 rcases hr.2 with ⟨e2, rfl⟩ | ⟨g', ys, e2, hbg, hx, hy, hm⟩
 · cases e2
 · obtain ⟨rfl, rfl, rfl⟩ : g = g' ∧ n = xs.length ∧ c = xs.length + ys.length := by
    simp at e2
    exact e2
   have hkx : k < xs.length := by rw [ha.1]; exact hk
   have hall : ∀ x ∈ xs ++ ys, x.ok := fun x hx' => by
    rcases List.mem_append.1 hx' with h1 | h1
    · exact hr.1 x h1
    · exact hy x h1
   have b1 := hx.set (k * 3) (.bool z.s)
   have b2 := b1.set (k * 3 + 1) z.u
   have b3 := b2.set (k * 3 + 2) z.d
   obtain ⟨y, hyk⟩ : ∃ y, (xs ++ ys)[k]? = some y := ⟨_, List.getElem?_eq_getElem (by simp; omega)⟩
   obtain ⟨q1, q2, q3⟩ := fcells_at _ k y hyk
   obtain ⟨⟨_, _, _, y1⟩, ⟨_, _, _, y2⟩⟩ := hall y (List.mem_of_getElem? hyk)
   have K := ((Kw.store hx q1 trivial (.bool z.s)).trans (Kw.store (i := k * 3 + 1) (c := y.u) b1 (by rw [List.getElem?_set_ne (by omega)]; exact q2) (by rw [y1]; trivial) z.u)).trans
    (Kw.store (i := k * 3 + 2) (c := y.d) b2 (by rw [List.getElem?_set_ne (by omega), List.getElem?_set_ne (by omega)]; exact q3) (by rw [y2]; trivial) z.d)
   have e3 : (((fcells (xs ++ ys)).set (k * 3) (.bool z.s)).set (k * 3 + 1) z.u).set (k * 3 + 2) z.d = fcells (xs.set k z ++ ys) := by
    rw [← fcells_set _ _ _ (by simp; omega), List.set_append_left _ _ hkx]
   rw [e3] at b3
   refine ⟨⟨xs.set k z, (ha.imp fun x q hx => kp.kw hx K).set k (kp.kw hq K), ?_, .inr ⟨g, ys, by simp, hbg, b3, hy, by simpa using hm⟩⟩, K, ?_, ((hu.setCell (p := ⟨g, k * 3, none⟩) hbg _).setCell (p := ⟨g, k * 3 + 1, none⟩) hbg _).setCell (p := ⟨g, k * 3 + 2, none⟩) hbg _⟩
   · intro x hx'
     rcases List.mem_or_eq_of_mem_set hx' with h1 | h1
     · exact hr.1 x h1
     · rw [h1]; exact hz
   · refine ⟨rfl, rfl, rfl, by simp [World.setCell], fun j hj hne => ?_⟩
     have hne2 : g ≠ j := fun e => hne (by rw [e])
     rw [Below.heap_setCell _ _ _ _ (by simpa using hne2.symm), Below.heap_setCell _ _ _ _ (by simpa using hne2.symm), Below.heap_setCell _ _ _ _ (by simpa using hne2.symm)]
end Go.Proofs.YtmmcffceeahemaaGreat
