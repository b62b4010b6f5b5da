/-
  FracTells: the right one of any fraction's value, whether it is right, its sign, which of two is the greater one, its size, and what it is rounded down to, are as the document has them (of at most 30 words each; longer ones ask the chapter's examples alone); nothing that was there turns.
  Conditions: none.
-/
import Derived.Test.YtmmcffceeahemaaHead
import Derived.Test.YtmmcffceeahemaaFracOpen
import Derived.Test.YtmmcffceeahemaaFracLaws6
namespace Go.Proofs.Ytmmcffceeahemaa.fracTells
open Go.ChangeShapes Go.WideShapes Go.ChangeAt Go.RowKit
set_option linter.unusedVariables false

theorem walk {v v' : Value} {W : World} (h : ∃ s u d l m, v = .agg #[.bool s, u, d] ∧ Ws W u l ∧ Ws W d m) (h' : ∃ s u d l m, v' = .agg #[.bool s, u, d] ∧ Ws W u l ∧ Ws W d m) : Calls Try.prog 8 #[v, v'] W fun e w' => e = .returned (.bool true) ∧ Below W.heap.size W w' := by
  obtain ⟨s, u, d, l, m, rfl, hl, hm⟩ := h
  obtain ⟨s', u', d', l', m', rfl, hl', hm'⟩ := h'
  exact fracTells_walk hl hm hl' hm'

open Hd (own laidOut)

set_option maxRecDepth 100000 in
theorem lifted (os : Os) (started : os.Started) (H : Type) (enc : TypeId × Value → H) :
    ReturnsInHanded {} Try.checked os 8 .any (Rows.fracTellsSpec.pre6 enc Try.prog Try.f8 Rows.fracTellsRow.domain false) (Rows.fracTellsSpec.post enc Try.prog Try.f8 false true false false) := by
  refine returnsInHanded_of_change (C := Try.checked) own started (by kernel_rfl) Try.func8
    (ChangeSpec.witness6 (enc := enc) (C := Try.checked) false ⟨#[], #[.agg #[.bool false, .slice none 0 0, .slice none 0 0], .agg #[.bool false, .slice none 0 0, .slice none 0 0]], []⟩ 8 (by kernel_rfl) (by kernel_rfl) (by kernel_rfl) (by kernel_rfl)) ?_
  intro W base args ds gs before hval0 hW hcnd _
  have hval : ∀ (j : Nat) t v, Try.f8.params[j]? = some t → args[j]? = some v → Value.okWide Try.prog W .any base t v := hval0
  have hW' := hW
  obtain ⟨p, q, hA0, hV, rfl, hfz, hnd⟩ := hW
  have hA : DataW.TrodAll enc Try.prog W 0 (fun _ => true) true Try.f8.params.toList args.toList ds p := hA0
  rw [Try.params8] at hA hval
  obtain ⟨v0, vs0, d0, ds0, p0, q0, hargs, rfl, rfl, h0, r0⟩ := trodAll_cons hA
  obtain ⟨v1, vs1, d1, ds1, p1, q1, rfl, rfl, rfl, h1, r1⟩ := trodAll_cons r0
  obtain ⟨rfl, rfl, rfl⟩ := trodAll_nil r1
  obtain rfl : args = #[v0, v1] := by cases args; simp_all
  obtain ⟨rfl, rfl⟩ := trodVars_none hV
  have k0 := h0
  have lt0 : ∀ x ∈ p0, x.block < W.heap.size := by obtain ⟨m, hm⟩ := k0; exact DataW.trod_lt m _ _ _ hm
  have k1 := h1
  have lt1 : ∀ x ∈ p1, x.block < W.heap.size := by obtain ⟨m, hm⟩ := k1; exact DataW.trod_lt m _ _ _ hm
  have s0 := open_frac (hval 0 61 v0 rfl rfl) h0
  have s1 := open_frac (hval 1 61 v1 rfl rfl) h1
  clear hA0 hval0
  refine (walk s0 s1).mono fun e W' ⟨he, bel⟩ => ?_
  subst he
  exact ⟨_, rfl, _, _, _, [], _, [], hW', trodAll_mk1 (shut_bool Try.underlying4 _), (trodAll_cons_mk (Below.trod laidOut (by kernel_rfl) (of_decide_eq_true (by kernel_rfl)) k0 bel lt0) (trodAll_cons_mk (Below.trod laidOut (by kernel_rfl) (of_decide_eq_true (by kernel_rfl)) k1 bel lt1) trodAll_mk0)), rfl, bel.frame _, fun h => by cases h⟩

theorem named : Try.prog.funcNamed Rows.fracTellsRow.func = some 8 := by kernel_rfl
theorem inst : Try.f8.isInstance Try.prog Rows.fracTellsRow.origin Rows.fracTellsRow.targs := of_decide_eq_true (by kernel_rfl)
theorem wrap : Try.f8.isWrapper Try.prog Rows.fracTellsRow.wrapper Rows.fracTellsRow.mainSum := by unfold Func.isWrapper; first | (rw [if_pos (by decide +kernel)]; kernel_rfl) | (rw [if_neg (by decide +kernel)]; exact ⟨rfl, rfl⟩)
theorem e01 : Rows.fracTellsRow.wf (OpenSpec.ofChange Rows.fracTellsSpec) = true := by kernel_rfl
theorem e04 : Try.f8.params.all (Try.prog.readableRec ·) = true := by kernel_rfl
theorem e05 : namedTie Try.prog Rows.fracTellsRow.named Rows.fracTellsSpec.vars = true := by kernel_rfl
theorem e10 : (Rows.fracTellsRow.inPlace == Try.prog.inPlace 8) = true := by kernel_rfl
theorem e11 : (Rows.fracTellsRow.unfollowed == Try.prog.unfollowed 8) = true := by kernel_rfl
theorem e12 : (Rows.fracTellsRow.recurses == Try.prog.recurses 8) = true := by kernel_rfl
theorem e13 : (Rows.fracTellsRow.named == Try.prog.varsNamed 8) = true := by kernel_rfl
theorem e14 : (Rows.fracTellsRow.maps == (Try.f8.params.toList ++ Rows.fracTellsSpec.plain.varTypes Try.prog).any (Try.prog.mapsRec ·)) = true := by kernel_rfl
theorem e15 : (Rows.fracTellsRow.ifaces == (Try.f8.params.toList ++ Rows.fracTellsSpec.plain.varTypes Try.prog).any (Try.prog.ifacesRec ·)) = true := by kernel_rfl
theorem e16 : (Rows.fracTellsRow.mapsOut == Try.prog.mapsAmong Try.f8.resultTypes.toList) = true := by kernel_rfl
theorem e17 : (Rows.fracTellsRow.loops == (Try.f8.params.toList ++ Rows.fracTellsSpec.plain.varTypes Try.prog).any (Try.prog.loopsFrom ·)) = true := by kernel_rfl
theorem e18 : (Rows.fracTellsRow.wideKeys == (Try.f8.params.toList ++ Rows.fracTellsSpec.plain.varTypes Try.prog ++ Try.f8.resultTypes.toList).any (Try.prog.wideKeysFrom ·)) = true := by kernel_rfl
theorem e19 : Rows.fracTellsSpec.vars.all (Try.prog.varReadable ·) = true := by kernel_rfl
theorem e20 : Try.f8.resultTypes.all (fun t => Try.prog.readableRec t && decide (t < Try.prog.types.size)) = true := by kernel_rfl
theorem e21 : (Rows.fracTellsRow.ifacesOut == Try.f8.resultTypes.toList.any (Try.prog.ifacesRec ·)) = true := by kernel_rfl
theorem e22 : (Rows.fracTellsRow.loopsOut == Try.f8.resultTypes.toList.any (Try.prog.loopsFrom ·)) = true := by kernel_rfl
theorem e31 : (Rows.fracTellsRow.veiled == (Try.f8.params.toList ++ Rows.fracTellsSpec.plain.varTypes Try.prog ++ Try.f8.resultTypes.toList).any (Try.prog.veiledRec ·)) = true := by kernel_rfl
theorem e32 : Rows.fracTellsRow.veiledFits Try.prog Try.f8.params.toList (Try.f8.params.toList ++ Rows.fracTellsSpec.plain.varTypes Try.prog ++ Try.f8.resultTypes.toList) = true := by kernel_rfl
theorem closed : joinedFacts Try.prog 8 Try.f8 Rows.fracTellsSpec Rows.fracTellsRow = true :=
  Hd.closed_of e01 e04 e05 (by kernel_rfl) (by kernel_rfl) e10 e11 e12 e13 e14 e15 e16 e17 e18 e19 e20 e21 e22 (by kernel_rfl) rfl rfl rfl rfl rfl rfl e31 e32
theorem over : Rows.fracTellsRow.holds Try.pinned (OpenSpec.ofChange Rows.fracTellsSpec) :=
  OpenClaim.holds_of_wide 8 Try.f8 rfl rfl rfl rfl rfl rfl rfl ⟨rfl, rfl, rfl, rfl, rfl⟩ rfl rfl rfl rfl rfl named Try.func8 closed inst wrap
    (fun os started H enc _ => lifted os started H enc)

theorem proved : Rows.FracTellsSaid := over
#print axioms proved
end Go.Proofs.Ytmmcffceeahemaa.fracTells
