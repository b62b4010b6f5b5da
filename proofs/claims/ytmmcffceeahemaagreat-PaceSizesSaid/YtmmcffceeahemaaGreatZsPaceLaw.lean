/-
  How steps are sized, plain: between Low and High, and never greater behind a greater error.
-/
import Derived.Test.YtmmcffceeahemaaGreatZsPaceMath
set_option linter.unusedVariables false
set_option linter.unusedSimpArgs false
namespace Pc
theorem down_eq (x : Rat) {fi : Int} (h : 1 ≤ fi) : down x fi = ((x * (fi : Rat)).floor : Rat) * (fi : Rat)⁻¹ := by
 unfold down
 rw [Rat.mkRat_eq_div, Rat.div_def]
 have : ((fi.natAbs : Nat) : Rat) = (fi : Rat) := by
  have e : ((fi.natAbs : Nat) : Int) = fi := by omega
  exact_mod_cast congrArg (fun z : Int => (z : Rat)) e
 rw [this]
theorem abs_nonneg (q : Rat) : 0 ≤ Wd.absQ q := by
 unfold Wd.absQ
 split
 · rename_i h
   by_cases h0 : 0 ≤ q
   · have := Rat.num_nonneg.2 h0
     omega
   · grind
 · rename_i h
   exact Rat.num_nonneg.1 (by omega)
end Pc
theorem Wd.Lq.absq {q : Rat} {k : Nat} (h : Wd.Lq q k) : Wd.Lq (Wd.absQ q) k := by
 unfold Wd.absQ
 split
 · exact h.neg
 · exact h
