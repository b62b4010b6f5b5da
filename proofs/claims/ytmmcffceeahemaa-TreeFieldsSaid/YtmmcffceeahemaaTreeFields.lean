/-
  TreeFields: whether two fields are the same, how many nodes one has, and its expressions, are as the document has them (of at most 12 lets and outs, of at most 100 nodes of at most 10 words each; longer ones ask the chapter's example alone); nothing that was there turns.
  Conditions: none.
-/
import Derived.Test.YtmmcffceeahemaaHead
import Derived.Test.YtmmcffceeahemaaFieldOpen
import Derived.Test.YtmmcffceeahemaaTreeFieldsW
namespace Go.Proofs.Ytmmcffceeahemaa.treeFields
open Go.ChangeShapes Go.WideShapes Go.ChangeAt Go.RowKit
set_option linter.unusedVariables false

theorem walk {v u : Value} {W : World} (ha : ∃ F, Fld W v F) (hb : ∃ G, Fld W u G) : Calls Try.prog 3 #[v, u] W fun e w' => e = .returned (.bool true) ∧ Below W.heap.size W w' := by
  obtain ⟨F, ha⟩ := ha
  obtain ⟨G, hb⟩ := hb
  exact treeFields_walk ha hb

open Hd (own laidOut)

set_option maxRecDepth 100000 in
theorem lifted (os : Os) (started : os.Started) (H : Type) (enc : TypeId × Value → H) :
    ReturnsInHanded {} Try.checked os 3 .any (Rows.treeFieldsSpec.pre6 enc Try.prog Try.f3 Rows.treeFieldsRow.domain false) (Rows.treeFieldsSpec.post enc Try.prog Try.f3 false true false false) := by
  refine returnsInHanded_of_change (C := Try.checked) own started (by kernel_rfl) Try.func3
    (ChangeSpec.witness6 (enc := enc) (C := Try.checked) false ⟨#[], #[.agg #[.slice none 0 0, .slice none 0 0], .agg #[.slice none 0 0, .slice none 0 0]], []⟩ 8 (by kernel_rfl) (by kernel_rfl) (by kernel_rfl) (by kernel_rfl)) ?_
  intro W base args ds gs before hval0 hW hcnd _
  have hval : ∀ (j : Nat) t v, Try.f3.params[j]? = some t → args[j]? = some v → Value.okWide Try.prog W .any base t v := hval0
  have hW' := hW
  obtain ⟨p, q, hA0, hV, rfl, hfz, hnd⟩ := hW
  have hA : DataW.TrodAll enc Try.prog W 0 (fun _ => true) true Try.f3.params.toList args.toList ds p := hA0
  rw [Try.params3] at hA hval
  obtain ⟨v0, vs0, d0, ds0, p0, q0, hargs, rfl, rfl, h0, r0⟩ := trodAll_cons hA
  obtain ⟨v1, vs1, d1, ds1, p1, q1, rfl, rfl, rfl, h1, r1⟩ := trodAll_cons r0
  obtain ⟨rfl, rfl, rfl⟩ := trodAll_nil r1
  obtain rfl : args = #[v0, v1] := by cases args; simp_all
  obtain ⟨rfl, rfl⟩ := trodVars_none hV
  have k0 := h0
  have lt0 : ∀ x ∈ p0, x.block < W.heap.size := by obtain ⟨m, hm⟩ := k0; exact DataW.trod_lt m _ _ _ hm
  have k1 := h1
  have lt1 : ∀ x ∈ p1, x.block < W.heap.size := by obtain ⟨m, hm⟩ := k1; exact DataW.trod_lt m _ _ _ hm
  have s0 := open_field (hval 0 25 v0 rfl rfl) h0
  have s1 := open_field (hval 1 25 v1 rfl rfl) h1
  clear hA0 hval0
  refine (walk s0 s1).mono fun e W' ⟨he, bel⟩ => ?_
  subst he
  exact ⟨_, rfl, _, _, _, [], _, [], hW', trodAll_mk1 (shut_bool Try.underlying4 _), (trodAll_cons_mk (Below.trod laidOut (by kernel_rfl) (of_decide_eq_true (by kernel_rfl)) k0 bel lt0) (trodAll_cons_mk (Below.trod laidOut (by kernel_rfl) (of_decide_eq_true (by kernel_rfl)) k1 bel lt1) trodAll_mk0)), rfl, bel.frame _, fun h => by cases h⟩

theorem named : Try.prog.funcNamed Rows.treeFieldsRow.func = some 3 := by kernel_rfl
theorem inst : Try.f3.isInstance Try.prog Rows.treeFieldsRow.origin Rows.treeFieldsRow.targs := of_decide_eq_true (by kernel_rfl)
theorem wrap : Try.f3.isWrapper Try.prog Rows.treeFieldsRow.wrapper Rows.treeFieldsRow.mainSum := by unfold Func.isWrapper; first | (rw [if_pos (by decide +kernel)]; kernel_rfl) | (rw [if_neg (by decide +kernel)]; exact ⟨rfl, rfl⟩)
theorem e01 : Rows.treeFieldsRow.wf (OpenSpec.ofChange Rows.treeFieldsSpec) = true := by kernel_rfl
theorem e04 : Try.f3.params.all (Try.prog.readableRec ·) = true := by kernel_rfl
theorem e05 : namedTie Try.prog Rows.treeFieldsRow.named Rows.treeFieldsSpec.vars = true := by kernel_rfl
theorem e10 : (Rows.treeFieldsRow.inPlace == Try.prog.inPlace 3) = true := by kernel_rfl
theorem e11 : (Rows.treeFieldsRow.unfollowed == Try.prog.unfollowed 3) = true := by kernel_rfl
theorem e12 : (Rows.treeFieldsRow.recurses == Try.prog.recurses 3) = true := by kernel_rfl
theorem e13 : (Rows.treeFieldsRow.named == Try.prog.varsNamed 3) = true := by kernel_rfl
theorem e14 : (Rows.treeFieldsRow.maps == (Try.f3.params.toList ++ Rows.treeFieldsSpec.plain.varTypes Try.prog).any (Try.prog.mapsRec ·)) = true := by kernel_rfl
theorem e15 : (Rows.treeFieldsRow.ifaces == (Try.f3.params.toList ++ Rows.treeFieldsSpec.plain.varTypes Try.prog).any (Try.prog.ifacesRec ·)) = true := by kernel_rfl
theorem e16 : (Rows.treeFieldsRow.mapsOut == Try.prog.mapsAmong Try.f3.resultTypes.toList) = true := by kernel_rfl
theorem e17 : (Rows.treeFieldsRow.loops == (Try.f3.params.toList ++ Rows.treeFieldsSpec.plain.varTypes Try.prog).any (Try.prog.loopsFrom ·)) = true := by kernel_rfl
theorem e18 : (Rows.treeFieldsRow.wideKeys == (Try.f3.params.toList ++ Rows.treeFieldsSpec.plain.varTypes Try.prog ++ Try.f3.resultTypes.toList).any (Try.prog.wideKeysFrom ·)) = true := by kernel_rfl
theorem e19 : Rows.treeFieldsSpec.vars.all (Try.prog.varReadable ·) = true := by kernel_rfl
theorem e20 : Try.f3.resultTypes.all (fun t => Try.prog.readableRec t && decide (t < Try.prog.types.size)) = true := by kernel_rfl
theorem e21 : (Rows.treeFieldsRow.ifacesOut == Try.f3.resultTypes.toList.any (Try.prog.ifacesRec ·)) = true := by kernel_rfl
theorem e22 : (Rows.treeFieldsRow.loopsOut == Try.f3.resultTypes.toList.any (Try.prog.loopsFrom ·)) = true := by kernel_rfl
theorem e31 : (Rows.treeFieldsRow.veiled == (Try.f3.params.toList ++ Rows.treeFieldsSpec.plain.varTypes Try.prog ++ Try.f3.resultTypes.toList).any (Try.prog.veiledRec ·)) = true := by kernel_rfl
theorem e32 : Rows.treeFieldsRow.veiledFits Try.prog Try.f3.params.toList (Try.f3.params.toList ++ Rows.treeFieldsSpec.plain.varTypes Try.prog ++ Try.f3.resultTypes.toList) = true := by kernel_rfl
theorem closed : joinedFacts Try.prog 3 Try.f3 Rows.treeFieldsSpec Rows.treeFieldsRow = true :=
  Hd.closed_of e01 e04 e05 (by kernel_rfl) (by kernel_rfl) e10 e11 e12 e13 e14 e15 e16 e17 e18 e19 e20 e21 e22 (by kernel_rfl) rfl rfl rfl rfl rfl rfl e31 e32
theorem over : Rows.treeFieldsRow.holds Try.pinned (OpenSpec.ofChange Rows.treeFieldsSpec) :=
  OpenClaim.holds_of_wide 3 Try.f3 rfl rfl rfl rfl rfl rfl rfl ⟨rfl, rfl, rfl, rfl, rfl⟩ rfl rfl rfl rfl rfl named Try.func3 closed inst wrap
    (fun os started H enc _ => lifted os started H enc)

theorem proved : Rows.TreeFieldsSaid := over
#print axioms proved
end Go.Proofs.Ytmmcffceeahemaa.treeFields
