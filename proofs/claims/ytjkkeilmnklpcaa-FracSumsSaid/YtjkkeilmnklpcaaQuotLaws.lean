/-
  The walks of the statements of layer 5.
-/
import Derived.Test.YtjkkeilmnklpcaaRefQuot
import Derived.Test.YtjkkeilmnklpcaaProdLaws
import Derived.Test.YtjkkeilmnklpcaaZeros
set_option linter.unusedVariables false
set_option linter.unusedSimpArgs false
namespace Go.Proofs.Ytjkkeilmnklpcaa
open Go.RowKit

theorem own_up {w w' : World} {base : Nat} {e : TypeId} {v : Value} {n size : Nat} {xs : List Value} (h : w.ownsRow base e size v n xs) (hu : Up w w') : w'.ownsRow base e size v n xs :=
  own_made h ⟨hu.os, hu.tape, hu.output, hu.size, fun k hk _ => hu.block k hk⟩
theorem words_1' : Wd.words 1 = [1] := words_small (by omega) (by omega)
theorem words_2 : Wd.words 2 = [2] := words_small (by omega) (by omega)
theorem words_3 : Wd.words 3 = [3] := words_small (by omega) (by omega)



theorem word_pad {r : Nat} (h : r < 4294967296) : Wd.words r ++ List.replicate (1 - (Wd.words r).length) 0 = [r] := by
  by_cases h0 : r = 0
  · subst h0; rw [Wd.words_zero]; rfl
  · rw [words_small h0 h]; rfl



end Go.Proofs.Ytjkkeilmnklpcaa
