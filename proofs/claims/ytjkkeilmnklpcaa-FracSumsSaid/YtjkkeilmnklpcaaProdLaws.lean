/-
  The walks of the statements of layer 4.
-/
import Derived.Test.YtjkkeilmnklpcaaRefProd
set_option linter.unusedVariables false
set_option linter.unusedSimpArgs false
namespace Go.Proofs.Ytjkkeilmnklpcaa
open Go.RowKit

theorem bl_2 : Wd.bl 2 = 2 := Wd.bl_top (n := 1) (by decide) (by decide)
theorem pow_2 : Wd.powOk 2 10 = true ∧ Wd.powN 2 10 = 1024 := by
  have h : Wd.powOk 2 10 = true := powOk_near (by omega) (by rw [bl_2]; decide)
  exact ⟨h, by rw [powN_yes h]; decide⟩
theorem words_top : Wd.words (4294967295 * 4294967295) = [1, 4294967294] :=
  words_list (ok_of_all (by simp)) rfl (by simp [Wd.val, Wd.B_eq])
theorem words_1024 : Wd.words 1024 = [1024] := words_small (by omega) (by omega)


/-- The lists that are handed in are right lists' worth of words. -/
theorem wl (a : List Nat) (h : Wd.Ok a) : (Wd.words (Wd.val a)).length ≤ a.length := Wd.words_val_length h


end Go.Proofs.Ytjkkeilmnklpcaa
