/-
  Two rows as they are spelled, as polynomials.
-/
import Derived.Test.YtmmcffceeahemaaGreatZsRatfLaw
import Derived.Test.YtmmcffceeahemaaGreatZsShort
set_option linter.unusedVariables false
set_option linter.unusedSimpArgs false
namespace Go.Proofs.YtmmcffceeahemaaGreat
open Go.RowKit
/-- Two rows as they are spelled, as polynomials. -/
theorem fun_letters {V U : Value} {rs ts : List Raw} {w : World} (h : RSq w V rs) (h2 : RSq w U ts) (g : (rs.length ≤ 3 ∧ ∀ r ∈ rs, r.few 1) ∧ (ts.length ≤ 3 ∧ ∀ r ∈ ts, r.few 1)) :
 ∃ p q : List Rat, FSq 2 w V p ∧ FSq 2 w U q ∧ p.length ≤ 3 ∧ q.length ≤ 3 ∧ p.length = rs.length ∧ q.length = ts.length ∧ Hid (Pq.Lp (p ++ q) 7) := by
 obtain ⟨⟨a1, a2⟩, b1, b2⟩ := g
 have f1 := h.fs a2 (by omega)
 have f2 := h2.fs b2 (by omega)
 have e1 : (rs.map Raw.val).length = rs.length := List.length_map _
 have e2 : (ts.map Raw.val).length = ts.length := List.length_map _
 exact ⟨_, _, f1.mono (by omega), f2.mono (by omega), by omega, by omega, e1, e2, Lib.hid ((Pq.Lp.few (k := 1) (fun x hx => by
  rcases List.mem_append.1 hx with hx | hx
  · exact f1.lq x hx
  · exact f2.lq x hx)).mono (by rw [List.length_append]; omega))⟩
end Go.Proofs.YtmmcffceeahemaaGreat
