/-
  CommonBoth: the product of the common divisor and the common multiple of any two numbers is the product of both, and both divide the multiple (of at most 20 words each; longer ones ask the chapter's examples alone); nothing that was there turns.
  Conditions: none.
-/
import Derived.Test.YtelgenhmmfkmhaaHead
import Derived.Test.YtelgenhmmfkmhaaOpen
import Derived.Test.YtelgenhmmfkmhaaCommonLaws
namespace Go.Proofs.Ytelgenhmmfkmhaa.commonBoth
open Go.ChangeShapes Go.WideShapes Go.ChangeAt Go.RowKit
set_option linter.unusedVariables false

theorem walk {v u : Value} {W : World} (ha : ∃ l, Ws W v l) (hb : ∃ l, Ws W u l) : Calls Try.prog 29 #[v, u] W fun e w' => e = .returned (.bool true) ∧ Below W.heap.size W w' := by
  obtain ⟨a, ha⟩ := ha
  obtain ⟨b, hb⟩ := hb
  exact commonBoth_walk ha hb

open Hd (own laidOut)

set_option maxRecDepth 100000 in
theorem lifted (os : Os) (started : os.Started) (H : Type) (enc : TypeId × Value → H) :
    ReturnsInHanded {} Try.checked os 29 .any (Rows.commonBothSpec.pre6 enc Try.prog Try.f29 Rows.commonBothRow.domain false) (Rows.commonBothSpec.post enc Try.prog Try.f29 false true false false) := by
  refine returnsInHanded_of_change (C := Try.checked) own started (by kernel_rfl) Try.func29
    (ChangeSpec.witness6 (enc := enc) (C := Try.checked) false ⟨#[], #[.slice none 0 0, .slice none 0 0], []⟩ 8 (by kernel_rfl) (by kernel_rfl) (by kernel_rfl) (by kernel_rfl)) ?_
  intro W base args ds gs before hval0 hW hcnd _
  have hval : ∀ (j : Nat) t v, Try.f29.params[j]? = some t → args[j]? = some v → Value.okWide Try.prog W .any base t v := hval0
  have hW' := hW
  obtain ⟨p, q, hA0, hV, rfl, hfz, hnd⟩ := hW
  have hA : DataW.TrodAll enc Try.prog W 0 (fun _ => true) true Try.f29.params.toList args.toList ds p := hA0
  rw [Try.params29] at hA hval
  obtain ⟨v0, vs0, d0, ds0, p0, q0, hargs, rfl, rfl, h0, r0⟩ := trodAll_cons hA
  obtain ⟨v1, vs1, d1, ds1, p1, q1, rfl, rfl, rfl, h1, r1⟩ := trodAll_cons r0
  obtain ⟨rfl, rfl, rfl⟩ := trodAll_nil r1
  obtain rfl : args = #[v0, v1] := by cases args; simp_all
  obtain ⟨rfl, rfl⟩ := trodVars_none hV
  have k0 := h0
  have lt0 : ∀ x ∈ p0, x.block < W.heap.size := by obtain ⟨m, hm⟩ := k0; exact DataW.trod_lt m _ _ _ hm
  have k1 := h1
  have lt1 : ∀ x ∈ p1, x.block < W.heap.size := by obtain ⟨m, hm⟩ := k1; exact DataW.trod_lt m _ _ _ hm
  have s0 := open_words (hval 0 53 v0 rfl rfl) h0
  have s1 := open_words (hval 1 53 v1 rfl rfl) h1
  clear hA0 hval0
  refine (walk s0 s1).mono fun e W' ⟨he, bel⟩ => ?_
  subst he
  exact ⟨_, rfl, _, _, _, [], _, [], hW', trodAll_mk1 (shut_bool Try.underlying4 _), (trodAll_cons_mk (Below.trod laidOut (by kernel_rfl) (of_decide_eq_true (by kernel_rfl)) k0 bel lt0) (trodAll_cons_mk (Below.trod laidOut (by kernel_rfl) (of_decide_eq_true (by kernel_rfl)) k1 bel lt1) trodAll_mk0)), rfl, bel.frame _, fun h => by cases h⟩

theorem named : Try.prog.funcNamed Rows.commonBothRow.func = some 29 := by kernel_rfl
theorem inst : Try.f29.isInstance Try.prog Rows.commonBothRow.origin Rows.commonBothRow.targs := of_decide_eq_true (by kernel_rfl)
theorem wrap : Try.f29.isWrapper Try.prog Rows.commonBothRow.wrapper Rows.commonBothRow.mainSum := by unfold Func.isWrapper; first | (rw [if_pos (by decide +kernel)]; kernel_rfl) | (rw [if_neg (by decide +kernel)]; exact ⟨rfl, rfl⟩)
theorem e01 : Rows.commonBothRow.wf (OpenSpec.ofChange Rows.commonBothSpec) = true := by kernel_rfl
theorem e04 : Try.f29.params.all (Try.prog.readableRec ·) = true := by kernel_rfl
theorem e05 : namedTie Try.prog Rows.commonBothRow.named Rows.commonBothSpec.vars = true := by kernel_rfl
theorem e10 : (Rows.commonBothRow.inPlace == Try.prog.inPlace 29) = true := by kernel_rfl
theorem e11 : (Rows.commonBothRow.unfollowed == Try.prog.unfollowed 29) = true := by kernel_rfl
theorem e12 : (Rows.commonBothRow.recurses == Try.prog.recurses 29) = true := by kernel_rfl
theorem e13 : (Rows.commonBothRow.named == Try.prog.varsNamed 29) = true := by kernel_rfl
theorem e14 : (Rows.commonBothRow.maps == (Try.f29.params.toList ++ Rows.commonBothSpec.plain.varTypes Try.prog).any (Try.prog.mapsRec ·)) = true := by kernel_rfl
theorem e15 : (Rows.commonBothRow.ifaces == (Try.f29.params.toList ++ Rows.commonBothSpec.plain.varTypes Try.prog).any (Try.prog.ifacesRec ·)) = true := by kernel_rfl
theorem e16 : (Rows.commonBothRow.mapsOut == Try.prog.mapsAmong Try.f29.resultTypes.toList) = true := by kernel_rfl
theorem e17 : (Rows.commonBothRow.loops == (Try.f29.params.toList ++ Rows.commonBothSpec.plain.varTypes Try.prog).any (Try.prog.loopsFrom ·)) = true := by kernel_rfl
theorem e18 : (Rows.commonBothRow.wideKeys == (Try.f29.params.toList ++ Rows.commonBothSpec.plain.varTypes Try.prog ++ Try.f29.resultTypes.toList).any (Try.prog.wideKeysFrom ·)) = true := by kernel_rfl
theorem e19 : Rows.commonBothSpec.vars.all (Try.prog.varReadable ·) = true := by kernel_rfl
theorem e20 : Try.f29.resultTypes.all (fun t => Try.prog.readableRec t && decide (t < Try.prog.types.size)) = true := by kernel_rfl
theorem e21 : (Rows.commonBothRow.ifacesOut == Try.f29.resultTypes.toList.any (Try.prog.ifacesRec ·)) = true := by kernel_rfl
theorem e22 : (Rows.commonBothRow.loopsOut == Try.f29.resultTypes.toList.any (Try.prog.loopsFrom ·)) = true := by kernel_rfl
theorem e31 : (Rows.commonBothRow.veiled == (Try.f29.params.toList ++ Rows.commonBothSpec.plain.varTypes Try.prog ++ Try.f29.resultTypes.toList).any (Try.prog.veiledRec ·)) = true := by kernel_rfl
theorem e32 : Rows.commonBothRow.veiledFits Try.prog Try.f29.params.toList (Try.f29.params.toList ++ Rows.commonBothSpec.plain.varTypes Try.prog ++ Try.f29.resultTypes.toList) = true := by kernel_rfl
theorem closed : joinedFacts Try.prog 29 Try.f29 Rows.commonBothSpec Rows.commonBothRow = true :=
  Hd.closed_of e01 e04 e05 (by kernel_rfl) (by kernel_rfl) e10 e11 e12 e13 e14 e15 e16 e17 e18 e19 e20 e21 e22 (by kernel_rfl) rfl rfl rfl rfl rfl rfl e31 e32
theorem over : Rows.commonBothRow.holds Try.pinned (OpenSpec.ofChange Rows.commonBothSpec) :=
  OpenClaim.holds_of_wide 29 Try.f29 rfl rfl rfl rfl rfl rfl rfl ⟨rfl, rfl, rfl, rfl, rfl⟩ rfl rfl rfl rfl rfl named Try.func29 closed inst wrap
    (fun os started H enc _ => lifted os started H enc)

theorem proved : Rows.CommonBothSaid := over
#print axioms proved
end Go.Proofs.Ytelgenhmmfkmhaa.commonBoth
