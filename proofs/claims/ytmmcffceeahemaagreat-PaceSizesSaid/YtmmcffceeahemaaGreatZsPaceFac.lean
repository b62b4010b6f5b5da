/-
  How long the factor behind an error is.
-/
import Derived.Test.YtmmcffceeahemaaGreatZsPace5
set_option linter.unusedVariables false
namespace Go.Proofs.YtmmcffceeahemaaGreat
open Go.RowKit
theorem lq_fac5 {tol safe low high e : Rat} {fi : Int} {k : Nat} (h1 : Wd.Lq tol 1000) (h2 : Wd.Lq safe 1000) (h3 : Wd.Lq low 1000) (h4 : Wd.Lq high 1000) (he : Wd.Lq e k) (f1 : 1 ≤ fi) (f2 : fi ≤ 1024) : Wd.Lq (Pc.fac tol safe low high fi e) (2004 + k) := by
 unfold Pc.fac
 have hd := down_lq ((h2.mul h1).div he) f1 f2
 split
 · exact h4.mono (by omega)
 · split
   · exact h3.mono (by omega)
   · split
     · exact h4.mono (by omega)
     · exact hd.mono (by omega)
end Go.Proofs.YtmmcffceeahemaaGreat
