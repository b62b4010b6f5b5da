/-
  CommonAll: the common divisor of any numbers, as many as one likes, is as the document has it (of at most 100 numbers, 60 words in all; others ask the chapter's examples alone); nothing that was there turns.
  Conditions: none.
-/
import Derived.Test.YtelgenhmmfkmhaaHead
import Derived.Test.YtelgenhmmfkmhaaOpen
import Derived.Test.YtelgenhmmfkmhaaCommonLaws
namespace Go.Proofs.Ytelgenhmmfkmhaa.commonAll
open Go.ChangeShapes Go.WideShapes Go.ChangeAt Go.RowKit
set_option linter.unusedVariables false

theorem walk {v : Value} {W : World} (h : ∃ ls, Wss W v ls) : Calls Try.prog 28 #[v] W fun e w' => e = .returned (.bool true) ∧ Below W.heap.size W w' := by
  obtain ⟨ls, h⟩ := h
  exact commonAll_walk h

open Hd (own laidOut)

set_option maxRecDepth 100000 in
theorem lifted (os : Os) (started : os.Started) (H : Type) (enc : TypeId × Value → H) :
    ReturnsInHanded {} Try.checked os 28 .any (Rows.commonAllSpec.pre6 enc Try.prog Try.f28 Rows.commonAllRow.domain false) (Rows.commonAllSpec.post enc Try.prog Try.f28 false true false false) := by
  refine returnsInHanded_of_change (C := Try.checked) own started (by kernel_rfl) Try.func28
    (ChangeSpec.witness6 (enc := enc) (C := Try.checked) false ⟨#[], #[.slice none 0 0], []⟩ 8 (by kernel_rfl) (by kernel_rfl) (by kernel_rfl) (by kernel_rfl)) ?_
  intro W base args ds gs before hval0 hW hcnd _
  have hval : ∀ (j : Nat) t v, Try.f28.params[j]? = some t → args[j]? = some v → Value.okWide Try.prog W .any base t v := hval0
  have hW' := hW
  obtain ⟨p, q, hA0, hV, rfl, hfz, hnd⟩ := hW
  have hA : DataW.TrodAll enc Try.prog W 0 (fun _ => true) true Try.f28.params.toList args.toList ds p := hA0
  rw [Try.params28] at hA hval
  obtain ⟨v0, vs0, d0, ds0, p0, q0, hargs, rfl, rfl, h0, r0⟩ := trodAll_cons hA
  obtain ⟨rfl, rfl, rfl⟩ := trodAll_nil r0
  obtain rfl : args = #[v0] := by cases args; simp_all
  obtain ⟨rfl, rfl⟩ := trodVars_none hV
  have k0 := h0
  have lt0 : ∀ x ∈ p0, x.block < W.heap.size := by obtain ⟨m, hm⟩ := k0; exact DataW.trod_lt m _ _ _ hm
  have s0 := open_lists (hval 0 51 v0 rfl rfl) h0
  clear hA0 hval0
  refine (walk s0).mono fun e W' ⟨he, bel⟩ => ?_
  subst he
  exact ⟨_, rfl, _, _, _, [], _, [], hW', trodAll_mk1 (shut_bool Try.underlying4 _), (trodAll_cons_mk (Below.trod laidOut (by kernel_rfl) (of_decide_eq_true (by kernel_rfl)) k0 bel lt0) trodAll_mk0), rfl, bel.frame _, fun h => by cases h⟩

theorem named : Try.prog.funcNamed Rows.commonAllRow.func = some 28 := by kernel_rfl
theorem inst : Try.f28.isInstance Try.prog Rows.commonAllRow.origin Rows.commonAllRow.targs := of_decide_eq_true (by kernel_rfl)
theorem wrap : Try.f28.isWrapper Try.prog Rows.commonAllRow.wrapper Rows.commonAllRow.mainSum := by unfold Func.isWrapper; first | (rw [if_pos (by decide +kernel)]; kernel_rfl) | (rw [if_neg (by decide +kernel)]; exact ⟨rfl, rfl⟩)
theorem e01 : Rows.commonAllRow.wf (OpenSpec.ofChange Rows.commonAllSpec) = true := by kernel_rfl
theorem e04 : Try.f28.params.all (Try.prog.readableRec ·) = true := by kernel_rfl
theorem e05 : namedTie Try.prog Rows.commonAllRow.named Rows.commonAllSpec.vars = true := by kernel_rfl
theorem e10 : (Rows.commonAllRow.inPlace == Try.prog.inPlace 28) = true := by kernel_rfl
theorem e11 : (Rows.commonAllRow.unfollowed == Try.prog.unfollowed 28) = true := by kernel_rfl
theorem e12 : (Rows.commonAllRow.recurses == Try.prog.recurses 28) = true := by kernel_rfl
theorem e13 : (Rows.commonAllRow.named == Try.prog.varsNamed 28) = true := by kernel_rfl
theorem e14 : (Rows.commonAllRow.maps == (Try.f28.params.toList ++ Rows.commonAllSpec.plain.varTypes Try.prog).any (Try.prog.mapsRec ·)) = true := by kernel_rfl
theorem e15 : (Rows.commonAllRow.ifaces == (Try.f28.params.toList ++ Rows.commonAllSpec.plain.varTypes Try.prog).any (Try.prog.ifacesRec ·)) = true := by kernel_rfl
theorem e16 : (Rows.commonAllRow.mapsOut == Try.prog.mapsAmong Try.f28.resultTypes.toList) = true := by kernel_rfl
theorem e17 : (Rows.commonAllRow.loops == (Try.f28.params.toList ++ Rows.commonAllSpec.plain.varTypes Try.prog).any (Try.prog.loopsFrom ·)) = true := by kernel_rfl
theorem e18 : (Rows.commonAllRow.wideKeys == (Try.f28.params.toList ++ Rows.commonAllSpec.plain.varTypes Try.prog ++ Try.f28.resultTypes.toList).any (Try.prog.wideKeysFrom ·)) = true := by kernel_rfl
theorem e19 : Rows.commonAllSpec.vars.all (Try.prog.varReadable ·) = true := by kernel_rfl
theorem e20 : Try.f28.resultTypes.all (fun t => Try.prog.readableRec t && decide (t < Try.prog.types.size)) = true := by kernel_rfl
theorem e21 : (Rows.commonAllRow.ifacesOut == Try.f28.resultTypes.toList.any (Try.prog.ifacesRec ·)) = true := by kernel_rfl
theorem e22 : (Rows.commonAllRow.loopsOut == Try.f28.resultTypes.toList.any (Try.prog.loopsFrom ·)) = true := by kernel_rfl
theorem e31 : (Rows.commonAllRow.veiled == (Try.f28.params.toList ++ Rows.commonAllSpec.plain.varTypes Try.prog ++ Try.f28.resultTypes.toList).any (Try.prog.veiledRec ·)) = true := by kernel_rfl
theorem e32 : Rows.commonAllRow.veiledFits Try.prog Try.f28.params.toList (Try.f28.params.toList ++ Rows.commonAllSpec.plain.varTypes Try.prog ++ Try.f28.resultTypes.toList) = true := by kernel_rfl
theorem closed : joinedFacts Try.prog 28 Try.f28 Rows.commonAllSpec Rows.commonAllRow = true :=
  Hd.closed_of e01 e04 e05 (by kernel_rfl) (by kernel_rfl) e10 e11 e12 e13 e14 e15 e16 e17 e18 e19 e20 e21 e22 (by kernel_rfl) rfl rfl rfl rfl rfl rfl e31 e32
theorem over : Rows.commonAllRow.holds Try.pinned (OpenSpec.ofChange Rows.commonAllSpec) :=
  OpenClaim.holds_of_wide 28 Try.f28 rfl rfl rfl rfl rfl rfl rfl ⟨rfl, rfl, rfl, rfl, rfl⟩ rfl rfl rfl rfl rfl named Try.func28 closed inst wrap
    (fun os started H enc _ => lifted os started H enc)

theorem proved : Rows.CommonAllSaid := over
#print axioms proved
end Go.Proofs.Ytelgenhmmfkmhaa.commonAll
