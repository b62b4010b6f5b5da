/-
  Rows of fractions: what comes in, read; turned over; too long?
-/
import Derived.Test.YtmmcffceeahemaaGreatZsSeq
import Derived.Test.YtmmcffceeahemaaGreatZsFracTo
import Derived.Test.YtmmcffceeahemaaGreatZsFracOpen
import Derived.Deep.Fields
set_option linter.unusedVariables false
set_option linter.unusedSimpArgs false
namespace Go.Proofs.YtmmcffceeahemaaGreat
open Go.RowKit
/-- A fraction as it is spelled: its sign, both lists of words. -/
abbrev Raw := Bool × List Nat × List Nat
def Rw (w : World) (v : Value) (r : Raw) : Prop := ∃ u d, v = .agg #[.bool r.1, u, d] ∧ Ws w u r.2.1 ∧ Ws w d r.2.2
theorem kp_rw : Kp Rw where
 kw := fun ⟨u, d, h1, h2, h3⟩ hk => ⟨u, d, h1, h2.kw hk, h3.kw hk⟩
 form := fun ⟨u, d, h1, h2, h3⟩ => ⟨⟨_, u, d⟩, h1, h2.shape, h3.shape⟩
/-- Its value; its size. -/
def Raw.val (r : Raw) : Rat := mkRat (Wd.iv r.1 (Wd.val r.2.1)) (Wd.val r.2.2)
def Raw.size (r : Raw) : Nat := Wd.bl (Wd.val r.2.1) + Wd.bl (Wd.val r.2.2)
def Raw.few (r : Raw) (k : Nat) : Prop := r.2.1.length ≤ k ∧ r.2.2.length ≤ k
theorem Rw.fr {w : World} {v : Value} {r : Raw} (h : Rw w v r) {k : Nat} (hk : r.few k) (h1 : 1 ≤ k) : Frk k w v r.val := by
 obtain ⟨u, d, rfl, h2, h3⟩ := h
 exact ⟨_, u, d, _, _, rfl, h2, h3, rfl, hk.1, hk.2, h1⟩
theorem Al.map {β γ : Type} {R : F3 → β → Prop} {S : F3 → γ → Prop} {xs : List F3} {qs : List β} (h : Al R xs qs) (f : β → γ) (hf : ∀ x q, q ∈ qs → R x q → S x (f q)) : Al S xs (qs.map f) := by
 refine ⟨by simp [h.1], fun j x q h1 h2 => ?_⟩
 rw [List.getElem?_map, Option.map_eq_some_iff] at h2
 obtain ⟨p, h2, rfl⟩ := h2
 exact hf x p (List.mem_of_getElem? h2) (h.2 j x p h1 h2)
theorem Sq.map {β γ : Type} {P : World → Value → β → Prop} {Q : World → Value → γ → Prop} {w : World} {v : Value} {qs : List β} (h : Sq P w v qs) (f : β → γ) (hf : ∀ v q, q ∈ qs → P w v q → Q w v (f q)) : Sq Q w v (qs.map f) := by
 obtain ⟨A, c, xs, h1, h2, h3, h4, h5⟩ := h
 exact ⟨A, c, xs, by rw [List.length_map]; exact h1, by rw [List.length_map]; exact h2, h3, h4.map f fun x q hq hx => hf _ q hq hx, h5⟩
end Go.Proofs.YtmmcffceeahemaaGreat
