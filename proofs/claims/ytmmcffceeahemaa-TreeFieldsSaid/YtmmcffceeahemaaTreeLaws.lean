/-
  The walks of the statements of layer 17.
-/
import Derived.Test.YtmmcffceeahemaaTreeSame
set_option linter.unusedVariables false
set_option linter.unusedSimpArgs false
theorem Tr.Pt.few {l : List Tr.Nd} {ps : List (List Tr.Nd)} {ds : List Nat} (h : Tr.Pt l ps ds) : ps.length ≤ 2 := by cases h <;> simp
theorem Tr.Pt.sub {l : List Tr.Nd} {ps : List (List Tr.Nd)} {ds : List Nat} (h : Tr.Pt l ps ds) : ∀ p ∈ ps, p.length ≤ l.length ∧ ∀ x ∈ p, x ∈ l := by
  cases h with
  | leaf x h => simp
  | one x a d h ha => intro p hp; simp at hp; subst hp; exact ⟨by simp, fun x hx => by simp [hx]⟩
  | two x a b d e h ha hb =>
    intro p hp
    simp at hp
    rcases hp with rfl | rfl
    · exact ⟨by simp, fun x hx => by simp [hx]⟩
    · exact ⟨by simp; omega, fun x hx => by simp [hx]⟩
namespace Go.Proofs.Ytmmcffceeahemaa
open Go.RowKit

theorem tree_wrong_at {v : Value} {l : List Tr.Nd} {w : World} {m : Int} (hm : Tr.wrongN l = m) (h : Nds w v l) (hl : l.length ≤ 1000000) :
    Calls Try.prog 95 #[v] w fun e w' => e = .returned (.int .i64 m) ∧ Up w w' := by subst hm; exact tree_wrong h hl
theorem tree_right_at {v : Value} {l : List Tr.Nd} {w : World} {t : Bool} (hm : decide (Tr.wrongN l < 0) = t) (h : Nds w v l) (hl : l.length ≤ 1000000) :
    Calls Try.prog 94 #[v] w fun e w' => e = .returned (.bool t) ∧ Up w w' := by subst hm; exact tree_right h hl

theorem tree_arity_at {op m : Int} (hm : Tr.arN op = m) (h : I64 op) (w : World) : Calls Try.prog 147 #[.int .i64 op] w fun e w' => e = .returned (.int .i64 m) ∧ w = w' := by subst hm; exact tree_arity h w


end Go.Proofs.Ytmmcffceeahemaa
