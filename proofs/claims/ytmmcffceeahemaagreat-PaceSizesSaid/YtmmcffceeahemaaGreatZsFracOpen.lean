/-
  Layer 9: a fraction that comes in, read.
-/
import Derived.Test.YtmmcffceeahemaaGreatZsFracLow
import Derived.Test.YtmmcffceeahemaaGreatZsOpen
set_option linter.unusedVariables false
set_option linter.unusedSimpArgs false
set_option maxRecDepth 100000
namespace Go.Proofs.YtmmcffceeahemaaGreat
open Go.RowKit Go.ChangeShapes Go.WideShapes Go.Deep
theorem cells_rfrac : Tryz.prog.cellsOf 24 = 3 := by kernel_rfl
theorem open_frac {H : Type} {enc : TypeId × Value → H} {W : World} {base : Nat} {v : Value} {d : DataW H} {p : List MemPlace} (hv : Value.okWide Tryz.prog W .any base 24 v) (h : DataW.Trod enc Tryz.prog W 0 (fun _ => true) true 24 v d p) :
 ∃ s u d l m, v = .agg #[.bool s, u, d] ∧ Ws W u l ∧ Ws W d m := by
 obtain ⟨v0, v1, v2, y0, y1, y2, n, rfl, _, _, h0, h1, h2⟩ := Joins.open_agg3 Tryz.underlying24 (by kernel_rfl) cells_rfrac hv h
 obtain ⟨l, hl⟩ := words_of_trod h1
 obtain ⟨m, hm⟩ := words_of_trod h2
 obtain ⟨b, e0⟩ := DataW.trod_bool Tryz.underlying4 h0
 obtain ⟨e1, _⟩ := e0
 simp at e1
 subst e1
 exact ⟨b, v1, v2, l, m, rfl, hl, hm⟩
end Go.Proofs.YtmmcffceeahemaaGreat
