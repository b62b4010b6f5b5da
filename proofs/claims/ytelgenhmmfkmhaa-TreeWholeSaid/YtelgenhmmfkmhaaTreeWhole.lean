/-
  TreeWhole: an expression is its operands' expressions, one behind the other, and its last node, which has as many operands; its depth is one more than the greatest of theirs (of at most 100 nodes with numbers of at most 10 words; longer ones ask the chapter's example alone); nothing that was there turns.
  Conditions: none.
-/
import Derived.Test.YtelgenhmmfkmhaaHead
import Derived.Test.YtelgenhmmfkmhaaTreeOpen
import Derived.Test.YtelgenhmmfkmhaaTreeLaws2
namespace Go.Proofs.Ytelgenhmmfkmhaa.treeWhole
open Go.ChangeShapes Go.WideShapes Go.ChangeAt Go.RowKit
set_option linter.unusedVariables false

theorem walk {v : Value} {W : World} (ha : ∃ l, Nds W v l) : Calls Try.prog 13 #[v] W fun e w' => e = .returned (.bool true) ∧ Below W.heap.size W w' := by
  obtain ⟨l, ha⟩ := ha
  exact treeWhole_walk ha

open Hd (own laidOut)

set_option maxRecDepth 100000 in
theorem lifted (os : Os) (started : os.Started) (H : Type) (enc : TypeId × Value → H) :
    ReturnsInHanded {} Try.checked os 13 .any (Rows.treeWholeSpec.pre6 enc Try.prog Try.f13 Rows.treeWholeRow.domain false) (Rows.treeWholeSpec.post enc Try.prog Try.f13 false true false false) := by
  refine returnsInHanded_of_change (C := Try.checked) own started (by kernel_rfl) Try.func13
    (ChangeSpec.witness6 (enc := enc) (C := Try.checked) false ⟨#[], #[.slice none 0 0], []⟩ 8 (by kernel_rfl) (by kernel_rfl) (by kernel_rfl) (by kernel_rfl)) ?_
  intro W base args ds gs before hval0 hW hcnd _
  have hval : ∀ (j : Nat) t v, Try.f13.params[j]? = some t → args[j]? = some v → Value.okWide Try.prog W .any base t v := hval0
  have hW' := hW
  obtain ⟨p, q, hA0, hV, rfl, hfz, hnd⟩ := hW
  have hA : DataW.TrodAll enc Try.prog W 0 (fun _ => true) true Try.f13.params.toList args.toList ds p := hA0
  rw [Try.params13] at hA hval
  obtain ⟨v0, vs0, d0, ds0, p0, q0, hargs, rfl, rfl, h0, r0⟩ := trodAll_cons hA
  obtain ⟨rfl, rfl, rfl⟩ := trodAll_nil r0
  obtain rfl : args = #[v0] := by cases args; simp_all
  obtain ⟨rfl, rfl⟩ := trodVars_none hV
  have k0 := h0
  have lt0 : ∀ x ∈ p0, x.block < W.heap.size := by obtain ⟨m, hm⟩ := k0; exact DataW.trod_lt m _ _ _ hm
  have s0 := open_nodes (hval 0 35 v0 rfl rfl) h0
  clear hA0 hval0
  refine (walk s0).mono fun e W' ⟨he, bel⟩ => ?_
  subst he
  exact ⟨_, rfl, _, _, _, [], _, [], hW', trodAll_mk1 (shut_bool Try.underlying4 _), (trodAll_cons_mk (Below.trod laidOut (by kernel_rfl) (of_decide_eq_true (by kernel_rfl)) k0 bel lt0) trodAll_mk0), rfl, bel.frame _, fun h => by cases h⟩

theorem named : Try.prog.funcNamed Rows.treeWholeRow.func = some 13 := by kernel_rfl
theorem inst : Try.f13.isInstance Try.prog Rows.treeWholeRow.origin Rows.treeWholeRow.targs := of_decide_eq_true (by kernel_rfl)
theorem wrap : Try.f13.isWrapper Try.prog Rows.treeWholeRow.wrapper Rows.treeWholeRow.mainSum := by unfold Func.isWrapper; first | (rw [if_pos (by decide +kernel)]; kernel_rfl) | (rw [if_neg (by decide +kernel)]; exact ⟨rfl, rfl⟩)
theorem e01 : Rows.treeWholeRow.wf (OpenSpec.ofChange Rows.treeWholeSpec) = true := by kernel_rfl
theorem e04 : Try.f13.params.all (Try.prog.readableRec ·) = true := by kernel_rfl
theorem e05 : namedTie Try.prog Rows.treeWholeRow.named Rows.treeWholeSpec.vars = true := by kernel_rfl
theorem e10 : (Rows.treeWholeRow.inPlace == Try.prog.inPlace 13) = true := by kernel_rfl
theorem e11 : (Rows.treeWholeRow.unfollowed == Try.prog.unfollowed 13) = true := by kernel_rfl
theorem e12 : (Rows.treeWholeRow.recurses == Try.prog.recurses 13) = true := by kernel_rfl
theorem e13 : (Rows.treeWholeRow.named == Try.prog.varsNamed 13) = true := by kernel_rfl
theorem e14 : (Rows.treeWholeRow.maps == (Try.f13.params.toList ++ Rows.treeWholeSpec.plain.varTypes Try.prog).any (Try.prog.mapsRec ·)) = true := by kernel_rfl
theorem e15 : (Rows.treeWholeRow.ifaces == (Try.f13.params.toList ++ Rows.treeWholeSpec.plain.varTypes Try.prog).any (Try.prog.ifacesRec ·)) = true := by kernel_rfl
theorem e16 : (Rows.treeWholeRow.mapsOut == Try.prog.mapsAmong Try.f13.resultTypes.toList) = true := by kernel_rfl
theorem e17 : (Rows.treeWholeRow.loops == (Try.f13.params.toList ++ Rows.treeWholeSpec.plain.varTypes Try.prog).any (Try.prog.loopsFrom ·)) = true := by kernel_rfl
theorem e18 : (Rows.treeWholeRow.wideKeys == (Try.f13.params.toList ++ Rows.treeWholeSpec.plain.varTypes Try.prog ++ Try.f13.resultTypes.toList).any (Try.prog.wideKeysFrom ·)) = true := by kernel_rfl
theorem e19 : Rows.treeWholeSpec.vars.all (Try.prog.varReadable ·) = true := by kernel_rfl
theorem e20 : Try.f13.resultTypes.all (fun t => Try.prog.readableRec t && decide (t < Try.prog.types.size)) = true := by kernel_rfl
theorem e21 : (Rows.treeWholeRow.ifacesOut == Try.f13.resultTypes.toList.any (Try.prog.ifacesRec ·)) = true := by kernel_rfl
theorem e22 : (Rows.treeWholeRow.loopsOut == Try.f13.resultTypes.toList.any (Try.prog.loopsFrom ·)) = true := by kernel_rfl
theorem e31 : (Rows.treeWholeRow.veiled == (Try.f13.params.toList ++ Rows.treeWholeSpec.plain.varTypes Try.prog ++ Try.f13.resultTypes.toList).any (Try.prog.veiledRec ·)) = true := by kernel_rfl
theorem e32 : Rows.treeWholeRow.veiledFits Try.prog Try.f13.params.toList (Try.f13.params.toList ++ Rows.treeWholeSpec.plain.varTypes Try.prog ++ Try.f13.resultTypes.toList) = true := by kernel_rfl
theorem closed : joinedFacts Try.prog 13 Try.f13 Rows.treeWholeSpec Rows.treeWholeRow = true :=
  Hd.closed_of e01 e04 e05 (by kernel_rfl) (by kernel_rfl) e10 e11 e12 e13 e14 e15 e16 e17 e18 e19 e20 e21 e22 (by kernel_rfl) rfl rfl rfl rfl rfl rfl e31 e32
theorem over : Rows.treeWholeRow.holds Try.pinned (OpenSpec.ofChange Rows.treeWholeSpec) :=
  OpenClaim.holds_of_wide 13 Try.f13 rfl rfl rfl rfl rfl rfl rfl ⟨rfl, rfl, rfl, rfl, rfl⟩ rfl rfl rfl rfl rfl named Try.func13 closed inst wrap
    (fun os started H enc _ => lifted os started H enc)

theorem proved : Rows.TreeWholeSaid := over
#print axioms proved
end Go.Proofs.Ytelgenhmmfkmhaa.treeWhole
