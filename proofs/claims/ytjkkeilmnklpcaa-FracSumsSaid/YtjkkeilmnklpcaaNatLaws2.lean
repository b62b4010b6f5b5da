/-
  The walks of the statements of layer 2, the others.
-/
import Derived.Test.YtjkkeilmnklpcaaNatLaws
set_option linter.unusedVariables false
set_option linter.unusedSimpArgs false
namespace Go.Proofs.Ytjkkeilmnklpcaa
open Go.RowKit

theorem wss_ok {w : World} {v : Value} {ls : List (List Nat)} (h : Wss w v ls) : ∀ l ∈ ls, Wd.Ok l := by
  obtain ⟨A, c, vs, _, _, _, h4, _, h6⟩ := h
  intro l hl
  obtain ⟨i, hi, rfl⟩ := List.mem_iff_getElem.1 hl
  exact (h6 i vs[i] ls[i] (List.getElem?_eq_getElem (by omega)) (List.getElem?_eq_getElem hi)).ok
theorem lens_false {ls : List (List Nat)} {m : Nat} (h : Wd.longL (lens ls) m 0 = false) : (∀ l ∈ ls, l.length ≤ m) ∧ ls.length ≤ 100 := by
  have h1 := Wd.longL_false h
  refine ⟨fun l hl => Wd.sum_mem_le h1.1 _ (List.mem_map_of_mem hl), ?_⟩
  rcases h1.2 with h2 | h2
  · have : ls = [] := by simpa [lens] using h2
    simp [this]
  · simpa [lens] using h2


theorem len_sub {a : List Nat} {n m : Nat} (ha : Wd.Ok a) (h : a.length ≤ m) (hn : n ≤ Wd.val a) : (Wd.words n).length ≤ m := Nat.le_trans (Wd.words_mono hn) (len_words_val ha h)


theorem lens_three {l m n : List Nat} {k : Nat} (h1 : l.length ≤ k) (h2 : m.length ≤ k) (h3 : n.length ≤ k) : ∀ x ∈ [l, m, n], x.length ≤ k := by
  intro x hx; simp at hx; rcases hx with rfl | rfl | rfl <;> assumption
theorem lens_two {l m : List Nat} {k : Nat} (h1 : l.length ≤ k) (h2 : m.length ≤ k) : ∀ x ∈ [l, m], x.length ≤ k := by
  intro x hx; simp at hx; rcases hx with rfl | rfl <;> assumption
theorem vsum_two (a b : List Nat) : Wd.vsum [a, b] = Wd.val a + Wd.val b := by simp [Wd.vsum_cons, Wd.vsum_nil]
theorem vsum_three (a b c : List Nat) : Wd.vsum [a, b, c] = Wd.val a + (Wd.val b + Wd.val c) := by simp [Wd.vsum_cons, Wd.vsum_nil]


end Go.Proofs.Ytjkkeilmnklpcaa
