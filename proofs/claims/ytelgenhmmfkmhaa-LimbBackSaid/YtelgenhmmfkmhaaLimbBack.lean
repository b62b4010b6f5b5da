/-
  LimbBack: for every four words what is added is taken away again, what is divided comes back by the product; nothing that was there turns.
  Conditions: none.
-/
import Derived.Test.YtelgenhmmfkmhaaHead
import Derived.Test.YtelgenhmmfkmhaaOpen
import Derived.Test.YtelgenhmmfkmhaaLimbLaws
namespace Go.Proofs.Ytelgenhmmfkmhaa.limbBack
open Go.ChangeShapes Go.WideShapes Go.ChangeAt Go.RowKit
set_option linter.unusedVariables false

theorem walk {v : Value} (h : ∃ x y c e : Nat, v = .agg #[.int .u32 x, .int .u32 y, .int .u32 c, .int .u32 e] ∧ x < Wd.B ∧ y < Wd.B ∧ c < Wd.B ∧ e < Wd.B) (w : World) : Calls Try.prog 6 #[v] w fun e w' => e = .returned (.bool true) ∧ Below w.heap.size w w' := by
  obtain ⟨x, y, c, e, rfl, hx, hy, hc, he⟩ := h
  exact limbBack_walk x y c e hx hy hc he w

open Hd (own laidOut)

set_option maxRecDepth 100000 in
theorem lifted (os : Os) (started : os.Started) (H : Type) (enc : TypeId × Value → H) :
    ReturnsInHanded {} Try.checked os 6 .any (Rows.limbBackSpec.pre6 enc Try.prog Try.f6 Rows.limbBackRow.domain false) (Rows.limbBackSpec.post enc Try.prog Try.f6 false true false false) := by
  refine returnsInHanded_of_change (C := Try.checked) own started (by kernel_rfl) Try.func6
    (ChangeSpec.witness6 (enc := enc) (C := Try.checked) false ⟨#[], #[.agg #[.int .u32 0, .int .u32 0, .int .u32 0, .int .u32 0]], []⟩ 8 (by kernel_rfl) (by kernel_rfl) (by kernel_rfl) (by kernel_rfl)) ?_
  intro W base args ds gs before hval0 hW hcnd _
  have hval : ∀ (j : Nat) t v, Try.f6.params[j]? = some t → args[j]? = some v → Value.okWide Try.prog W .any base t v := hval0
  have hW' := hW
  obtain ⟨p, q, hA0, hV, rfl, hfz, hnd⟩ := hW
  have hA : DataW.TrodAll enc Try.prog W 0 (fun _ => true) true Try.f6.params.toList args.toList ds p := hA0
  rw [Try.params6] at hA hval
  obtain ⟨v0, vs0, d0, ds0, p0, q0, hargs, rfl, rfl, h0, r0⟩ := trodAll_cons hA
  obtain ⟨rfl, rfl, rfl⟩ := trodAll_nil r0
  obtain rfl : args = #[v0] := by cases args; simp_all
  obtain ⟨rfl, rfl⟩ := trodVars_none hV
  have k0 := h0
  have lt0 : ∀ x ∈ p0, x.block < W.heap.size := by obtain ⟨m, hm⟩ := k0; exact DataW.trod_lt m _ _ _ hm
  have s0 := open_in (hval 0 30 v0 rfl rfl) h0
  clear hA0 hval0
  refine (walk s0 W).mono fun e W' ⟨he, bel⟩ => ?_
  subst he
  exact ⟨_, rfl, _, _, _, [], _, [], hW', trodAll_mk1 (shut_bool Try.underlying4 _), (trodAll_cons_mk (Below.trod laidOut (by kernel_rfl) (of_decide_eq_true (by kernel_rfl)) k0 bel lt0) trodAll_mk0), rfl, bel.frame _, fun h => by cases h⟩

theorem named : Try.prog.funcNamed Rows.limbBackRow.func = some 6 := by kernel_rfl
theorem inst : Try.f6.isInstance Try.prog Rows.limbBackRow.origin Rows.limbBackRow.targs := of_decide_eq_true (by kernel_rfl)
theorem wrap : Try.f6.isWrapper Try.prog Rows.limbBackRow.wrapper Rows.limbBackRow.mainSum := by unfold Func.isWrapper; first | (rw [if_pos (by decide +kernel)]; kernel_rfl) | (rw [if_neg (by decide +kernel)]; exact ⟨rfl, rfl⟩)
theorem e01 : Rows.limbBackRow.wf (OpenSpec.ofChange Rows.limbBackSpec) = true := by kernel_rfl
theorem e04 : Try.f6.params.all (Try.prog.readableRec ·) = true := by kernel_rfl
theorem e05 : namedTie Try.prog Rows.limbBackRow.named Rows.limbBackSpec.vars = true := by kernel_rfl
theorem e10 : (Rows.limbBackRow.inPlace == Try.prog.inPlace 6) = true := by kernel_rfl
theorem e11 : (Rows.limbBackRow.unfollowed == Try.prog.unfollowed 6) = true := by kernel_rfl
theorem e12 : (Rows.limbBackRow.recurses == Try.prog.recurses 6) = true := by kernel_rfl
theorem e13 : (Rows.limbBackRow.named == Try.prog.varsNamed 6) = true := by kernel_rfl
theorem e14 : (Rows.limbBackRow.maps == (Try.f6.params.toList ++ Rows.limbBackSpec.plain.varTypes Try.prog).any (Try.prog.mapsRec ·)) = true := by kernel_rfl
theorem e15 : (Rows.limbBackRow.ifaces == (Try.f6.params.toList ++ Rows.limbBackSpec.plain.varTypes Try.prog).any (Try.prog.ifacesRec ·)) = true := by kernel_rfl
theorem e16 : (Rows.limbBackRow.mapsOut == Try.prog.mapsAmong Try.f6.resultTypes.toList) = true := by kernel_rfl
theorem e17 : (Rows.limbBackRow.loops == (Try.f6.params.toList ++ Rows.limbBackSpec.plain.varTypes Try.prog).any (Try.prog.loopsFrom ·)) = true := by kernel_rfl
theorem e18 : (Rows.limbBackRow.wideKeys == (Try.f6.params.toList ++ Rows.limbBackSpec.plain.varTypes Try.prog ++ Try.f6.resultTypes.toList).any (Try.prog.wideKeysFrom ·)) = true := by kernel_rfl
theorem e19 : Rows.limbBackSpec.vars.all (Try.prog.varReadable ·) = true := by kernel_rfl
theorem e20 : Try.f6.resultTypes.all (fun t => Try.prog.readableRec t && decide (t < Try.prog.types.size)) = true := by kernel_rfl
theorem e21 : (Rows.limbBackRow.ifacesOut == Try.f6.resultTypes.toList.any (Try.prog.ifacesRec ·)) = true := by kernel_rfl
theorem e22 : (Rows.limbBackRow.loopsOut == Try.f6.resultTypes.toList.any (Try.prog.loopsFrom ·)) = true := by kernel_rfl
theorem e31 : (Rows.limbBackRow.veiled == (Try.f6.params.toList ++ Rows.limbBackSpec.plain.varTypes Try.prog ++ Try.f6.resultTypes.toList).any (Try.prog.veiledRec ·)) = true := by kernel_rfl
theorem e32 : Rows.limbBackRow.veiledFits Try.prog Try.f6.params.toList (Try.f6.params.toList ++ Rows.limbBackSpec.plain.varTypes Try.prog ++ Try.f6.resultTypes.toList) = true := by kernel_rfl
theorem closed : joinedFacts Try.prog 6 Try.f6 Rows.limbBackSpec Rows.limbBackRow = true :=
  Hd.closed_of e01 e04 e05 (by kernel_rfl) (by kernel_rfl) e10 e11 e12 e13 e14 e15 e16 e17 e18 e19 e20 e21 e22 (by kernel_rfl) rfl rfl rfl rfl rfl rfl e31 e32
theorem over : Rows.limbBackRow.holds Try.pinned (OpenSpec.ofChange Rows.limbBackSpec) :=
  OpenClaim.holds_of_wide 6 Try.f6 rfl rfl rfl rfl rfl rfl rfl ⟨rfl, rfl, rfl, rfl, rfl⟩ rfl rfl rfl rfl rfl named Try.func6 closed inst wrap
    (fun os started H enc _ => lifted os started H enc)

theorem proved : Rows.LimbBackSaid := over
#print axioms proved
end Go.Proofs.Ytelgenhmmfkmhaa.limbBack
