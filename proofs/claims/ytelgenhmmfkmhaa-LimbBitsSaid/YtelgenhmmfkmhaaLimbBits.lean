/-
  LimbBits: for every word its number of bits and the number of noughts at their end are as the document has them; nothing that was there turns.
  Conditions: none.
-/
import Derived.Test.YtelgenhmmfkmhaaHead
import Derived.Test.YtelgenhmmfkmhaaOpen
import Derived.Test.YtelgenhmmfkmhaaLimbLaws
namespace Go.Proofs.Ytelgenhmmfkmhaa.limbBits
open Go.ChangeShapes Go.WideShapes Go.ChangeAt Go.RowKit
set_option linter.unusedVariables false

theorem walk (a : Int) (h : (Lit.int .u32 a).wf = true) (w : World) : Calls Try.prog 3 #[.int .u32 a] w fun e w' => e = .returned (.bool true) ∧ Below w.heap.size w w' := by
  obtain ⟨x, rfl, hx⟩ := word_of h
  exact (limbBits_walk x hx w).mono fun e w' ⟨he, hw⟩ => ⟨he, hw ▸ Below.refl _ _⟩

open Hd (own laidOut)

set_option maxRecDepth 100000 in
theorem lifted (os : Os) (started : os.Started) (H : Type) (enc : TypeId × Value → H) :
    ReturnsInHanded {} Try.checked os 3 .any (Rows.limbBitsSpec.pre6 enc Try.prog Try.f3 Rows.limbBitsRow.domain false) (Rows.limbBitsSpec.post enc Try.prog Try.f3 false true false false) := by
  refine returnsInHanded_of_change (C := Try.checked) own started (by kernel_rfl) Try.func3
    (ChangeSpec.witness6 (enc := enc) (C := Try.checked) false ⟨#[], #[.int .u32 0], []⟩ 8 (by kernel_rfl) (by kernel_rfl) (by kernel_rfl) (by kernel_rfl)) ?_
  intro W base args ds gs before hval0 hW hcnd _
  have hval : ∀ (j : Nat) t v, Try.f3.params[j]? = some t → args[j]? = some v → Value.okWide Try.prog W .any base t v := hval0
  have hW' := hW
  obtain ⟨p, q, hA0, hV, rfl, hfz, hnd⟩ := hW
  have hA : DataW.TrodAll enc Try.prog W 0 (fun _ => true) true Try.f3.params.toList args.toList ds p := hA0
  rw [Try.params3] at hA hval
  obtain ⟨v0, vs0, d0, ds0, p0, q0, hargs, rfl, rfl, h0, r0⟩ := trodAll_cons hA
  obtain ⟨rfl, rfl, rfl⟩ := trodAll_nil r0
  obtain rfl : args = #[v0] := by cases args; simp_all
  obtain ⟨rfl, rfl⟩ := trodVars_none hV
  have k0 := h0
  have lt0 : ∀ x ∈ p0, x.block < W.heap.size := by obtain ⟨m, hm⟩ := k0; exact DataW.trod_lt m _ _ _ hm
  obtain ⟨a0, rfl, rfl, rfl, w0⟩ := open_int Try.underlying22 (hval 0 22 v0 rfl rfl) h0
  clear hA0 hval0
  refine (walk a0 w0 W).mono fun e W' ⟨he, bel⟩ => ?_
  subst he
  exact ⟨_, rfl, _, _, _, [], _, [], hW', trodAll_mk1 (shut_bool Try.underlying4 _), (trodAll_cons_mk (Below.trod laidOut (by kernel_rfl) (of_decide_eq_true (by kernel_rfl)) k0 bel lt0) trodAll_mk0), rfl, bel.frame _, fun h => by cases h⟩

theorem named : Try.prog.funcNamed Rows.limbBitsRow.func = some 3 := by kernel_rfl
theorem inst : Try.f3.isInstance Try.prog Rows.limbBitsRow.origin Rows.limbBitsRow.targs := of_decide_eq_true (by kernel_rfl)
theorem wrap : Try.f3.isWrapper Try.prog Rows.limbBitsRow.wrapper Rows.limbBitsRow.mainSum := by unfold Func.isWrapper; first | (rw [if_pos (by decide +kernel)]; kernel_rfl) | (rw [if_neg (by decide +kernel)]; exact ⟨rfl, rfl⟩)
theorem e01 : Rows.limbBitsRow.wf (OpenSpec.ofChange Rows.limbBitsSpec) = true := by kernel_rfl
theorem e04 : Try.f3.params.all (Try.prog.readableRec ·) = true := by kernel_rfl
theorem e05 : namedTie Try.prog Rows.limbBitsRow.named Rows.limbBitsSpec.vars = true := by kernel_rfl
theorem e10 : (Rows.limbBitsRow.inPlace == Try.prog.inPlace 3) = true := by kernel_rfl
theorem e11 : (Rows.limbBitsRow.unfollowed == Try.prog.unfollowed 3) = true := by kernel_rfl
theorem e12 : (Rows.limbBitsRow.recurses == Try.prog.recurses 3) = true := by kernel_rfl
theorem e13 : (Rows.limbBitsRow.named == Try.prog.varsNamed 3) = true := by kernel_rfl
theorem e14 : (Rows.limbBitsRow.maps == (Try.f3.params.toList ++ Rows.limbBitsSpec.plain.varTypes Try.prog).any (Try.prog.mapsRec ·)) = true := by kernel_rfl
theorem e15 : (Rows.limbBitsRow.ifaces == (Try.f3.params.toList ++ Rows.limbBitsSpec.plain.varTypes Try.prog).any (Try.prog.ifacesRec ·)) = true := by kernel_rfl
theorem e16 : (Rows.limbBitsRow.mapsOut == Try.prog.mapsAmong Try.f3.resultTypes.toList) = true := by kernel_rfl
theorem e17 : (Rows.limbBitsRow.loops == (Try.f3.params.toList ++ Rows.limbBitsSpec.plain.varTypes Try.prog).any (Try.prog.loopsFrom ·)) = true := by kernel_rfl
theorem e18 : (Rows.limbBitsRow.wideKeys == (Try.f3.params.toList ++ Rows.limbBitsSpec.plain.varTypes Try.prog ++ Try.f3.resultTypes.toList).any (Try.prog.wideKeysFrom ·)) = true := by kernel_rfl
theorem e19 : Rows.limbBitsSpec.vars.all (Try.prog.varReadable ·) = true := by kernel_rfl
theorem e20 : Try.f3.resultTypes.all (fun t => Try.prog.readableRec t && decide (t < Try.prog.types.size)) = true := by kernel_rfl
theorem e21 : (Rows.limbBitsRow.ifacesOut == Try.f3.resultTypes.toList.any (Try.prog.ifacesRec ·)) = true := by kernel_rfl
theorem e22 : (Rows.limbBitsRow.loopsOut == Try.f3.resultTypes.toList.any (Try.prog.loopsFrom ·)) = true := by kernel_rfl
theorem e31 : (Rows.limbBitsRow.veiled == (Try.f3.params.toList ++ Rows.limbBitsSpec.plain.varTypes Try.prog ++ Try.f3.resultTypes.toList).any (Try.prog.veiledRec ·)) = true := by kernel_rfl
theorem e32 : Rows.limbBitsRow.veiledFits Try.prog Try.f3.params.toList (Try.f3.params.toList ++ Rows.limbBitsSpec.plain.varTypes Try.prog ++ Try.f3.resultTypes.toList) = true := by kernel_rfl
theorem closed : joinedFacts Try.prog 3 Try.f3 Rows.limbBitsSpec Rows.limbBitsRow = true :=
  Hd.closed_of e01 e04 e05 (by kernel_rfl) (by kernel_rfl) e10 e11 e12 e13 e14 e15 e16 e17 e18 e19 e20 e21 e22 (by kernel_rfl) rfl rfl rfl rfl rfl rfl e31 e32
theorem over : Rows.limbBitsRow.holds Try.pinned (OpenSpec.ofChange Rows.limbBitsSpec) :=
  OpenClaim.holds_of_wide 3 Try.f3 rfl rfl rfl rfl rfl rfl rfl ⟨rfl, rfl, rfl, rfl, rfl⟩ rfl rfl rfl rfl rfl named Try.func3 closed inst wrap
    (fun os started H enc _ => lifted os started H enc)

theorem proved : Rows.LimbBitsSaid := over
#print axioms proved
end Go.Proofs.Ytelgenhmmfkmhaa.limbBits
