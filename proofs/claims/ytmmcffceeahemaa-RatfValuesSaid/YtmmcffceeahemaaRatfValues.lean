/-
  RatfValues: where two functions have values, their sum, difference and product have the sum, difference and product of these; their quotient, where the second value is not 0, the quotient (of at most 3 coefficients of at most 1 word each; longer ones ask the chapter's examples alone); nothing that was there turns.
  Conditions: none.
-/
import Derived.Test.YtmmcffceeahemaaHead
import Derived.Test.YtmmcffceeahemaaRatfValuesW
namespace Go.Proofs.Ytmmcffceeahemaa.ratfValues
open Go.ChangeShapes Go.WideShapes Go.ChangeAt Go.RowKit
set_option linter.unusedVariables false

theorem walk {v u x : Value} {W : World} (h : ∃ V U rs ts, v = .agg #[V, U] ∧ RSq W V rs ∧ RSq W U ts) (h2 : ∃ V U rs ts, u = .agg #[V, U] ∧ RSq W V rs ∧ RSq W U ts) (h3 : ∃ (s : Bool) (U D : Value) (l m : List Nat), x = .agg #[.bool s, U, D] ∧ Ws W U l ∧ Ws W D m) :
 Calls Try.prog 12 #[v, u, x] W fun e w' => e = .returned (.bool true) ∧ Below W.heap.size W w' := by
 obtain ⟨V, U, rs, ts, rfl, a1, a2⟩ := h
 obtain ⟨V', U', rs', ts', rfl, b1, b2⟩ := h2
 obtain ⟨s, X, Y, l, m, rfl, c1, c2⟩ := h3
 exact ratfValues_walk a1 a2 b1 b2 c1 c2

open Hd (own laidOut)

set_option maxRecDepth 100000 in
theorem lifted (os : Os) (started : os.Started) (H : Type) (enc : TypeId × Value → H) :
 ReturnsInHanded {} Try.checked os 12 .any (Rows.ratfValuesSpec.pre6 enc Try.prog Try.f12 Rows.ratfValuesRow.domain false) (Rows.ratfValuesSpec.post enc Try.prog Try.f12 false true false false) := by
 refine returnsInHanded_of_change (C := Try.checked) own started (by kernel_rfl) Try.func12
  (ChangeSpec.witness6 (enc := enc) (C := Try.checked) false ⟨#[], #[.agg #[.slice none 0 0, .slice none 0 0], .agg #[.slice none 0 0, .slice none 0 0], .agg #[.bool false, .slice none 0 0, .slice none 0 0]], []⟩ 8 (by kernel_rfl) (by kernel_rfl) (by kernel_rfl) (by kernel_rfl)) ?_
 intro W base args ds gs before hval0 hW hcnd _
 have hval : ∀ (j : Nat) t v, Try.f12.params[j]? = some t → args[j]? = some v → Value.okWide Try.prog W .any base t v := hval0
 have hW' := hW
 obtain ⟨p, q, hA0, hV, rfl, hfz, hnd⟩ := hW
 have hA : DataW.TrodAll enc Try.prog W 0 (fun _ => true) true Try.f12.params.toList args.toList ds p := hA0
 rw [Try.params12] at hA hval
 obtain ⟨v0, vs0, d0, ds0, p0, q0, hargs, rfl, rfl, h0, r0⟩ := trodAll_cons hA
 obtain ⟨v1, vs1, d1, ds1, p1, q1, rfl, rfl, rfl, h1, r1⟩ := trodAll_cons r0
 obtain ⟨v2, vs2, d2, ds2, p2, q2, rfl, rfl, rfl, h2, r2⟩ := trodAll_cons r1
 obtain ⟨rfl, rfl, rfl⟩ := trodAll_nil r2
 obtain rfl : args = #[v0, v1, v2] := by cases args; simp_all
 obtain ⟨rfl, rfl⟩ := trodVars_none hV
 have k0 := h0
 have lt0 : ∀ x ∈ p0, x.block < W.heap.size := by obtain ⟨m, hm⟩ := k0; exact DataW.trod_lt m _ _ _ hm
 have k1 := h1
 have lt1 : ∀ x ∈ p1, x.block < W.heap.size := by obtain ⟨m, hm⟩ := k1; exact DataW.trod_lt m _ _ _ hm
 have k2 := h2
 have lt2 : ∀ x ∈ p2, x.block < W.heap.size := by obtain ⟨m, hm⟩ := k2; exact DataW.trod_lt m _ _ _ hm
 have s0 := open_fun (hval 0 117 v0 rfl rfl) h0
 have s1 := open_fun (hval 1 117 v1 rfl rfl) h1
 have s2 := open_frac (hval 2 61 v2 rfl rfl) h2
 clear hA0 hval0
 refine (walk s0 s1 s2).mono fun e W' ⟨he, bel⟩ => ?_
 subst he
 exact ⟨_, rfl, _, _, _, [], _, [], hW', trodAll_mk1 (shut_bool Try.underlying4 _), (trodAll_cons_mk (Below.trod laidOut (by kernel_rfl) (of_decide_eq_true (by kernel_rfl)) k0 bel lt0) (trodAll_cons_mk (Below.trod laidOut (by kernel_rfl) (of_decide_eq_true (by kernel_rfl)) k1 bel lt1) (trodAll_cons_mk (Below.trod laidOut (by kernel_rfl) (of_decide_eq_true (by kernel_rfl)) k2 bel lt2) trodAll_mk0))), rfl, bel.frame _, fun h => by cases h⟩

theorem named : Try.prog.funcNamed Rows.ratfValuesRow.func = some 12 := by kernel_rfl
theorem inst : Try.f12.isInstance Try.prog Rows.ratfValuesRow.origin Rows.ratfValuesRow.targs := of_decide_eq_true (by kernel_rfl)
theorem wrap : Try.f12.isWrapper Try.prog Rows.ratfValuesRow.wrapper Rows.ratfValuesRow.mainSum := by unfold Func.isWrapper; first | (rw [if_pos (by decide +kernel)]; kernel_rfl) | (rw [if_neg (by decide +kernel)]; exact ⟨rfl, rfl⟩)
theorem e01 : Rows.ratfValuesRow.wf (OpenSpec.ofChange Rows.ratfValuesSpec) = true := by kernel_rfl
theorem e04 : Try.f12.params.all (Try.prog.readableRec ·) = true := by kernel_rfl
theorem e05 : namedTie Try.prog Rows.ratfValuesRow.named Rows.ratfValuesSpec.vars = true := by kernel_rfl
theorem e10 : (Rows.ratfValuesRow.inPlace == Try.prog.inPlace 12) = true := by kernel_rfl
theorem e11 : (Rows.ratfValuesRow.unfollowed == Try.prog.unfollowed 12) = true := by kernel_rfl
theorem e12 : (Rows.ratfValuesRow.recurses == Try.prog.recurses 12) = true := by kernel_rfl
theorem e13 : (Rows.ratfValuesRow.named == Try.prog.varsNamed 12) = true := by kernel_rfl
theorem e14 : (Rows.ratfValuesRow.maps == (Try.f12.params.toList ++ Rows.ratfValuesSpec.plain.varTypes Try.prog).any (Try.prog.mapsRec ·)) = true := by kernel_rfl
theorem e15 : (Rows.ratfValuesRow.ifaces == (Try.f12.params.toList ++ Rows.ratfValuesSpec.plain.varTypes Try.prog).any (Try.prog.ifacesRec ·)) = true := by kernel_rfl
theorem e16 : (Rows.ratfValuesRow.mapsOut == Try.prog.mapsAmong Try.f12.resultTypes.toList) = true := by kernel_rfl
theorem e17 : (Rows.ratfValuesRow.loops == (Try.f12.params.toList ++ Rows.ratfValuesSpec.plain.varTypes Try.prog).any (Try.prog.loopsFrom ·)) = true := by kernel_rfl
theorem e18 : (Rows.ratfValuesRow.wideKeys == (Try.f12.params.toList ++ Rows.ratfValuesSpec.plain.varTypes Try.prog ++ Try.f12.resultTypes.toList).any (Try.prog.wideKeysFrom ·)) = true := by kernel_rfl
theorem e19 : Rows.ratfValuesSpec.vars.all (Try.prog.varReadable ·) = true := by kernel_rfl
theorem e20 : Try.f12.resultTypes.all (fun t => Try.prog.readableRec t && decide (t < Try.prog.types.size)) = true := by kernel_rfl
theorem e21 : (Rows.ratfValuesRow.ifacesOut == Try.f12.resultTypes.toList.any (Try.prog.ifacesRec ·)) = true := by kernel_rfl
theorem e22 : (Rows.ratfValuesRow.loopsOut == Try.f12.resultTypes.toList.any (Try.prog.loopsFrom ·)) = true := by kernel_rfl
theorem e31 : (Rows.ratfValuesRow.veiled == (Try.f12.params.toList ++ Rows.ratfValuesSpec.plain.varTypes Try.prog ++ Try.f12.resultTypes.toList).any (Try.prog.veiledRec ·)) = true := by kernel_rfl
theorem e32 : Rows.ratfValuesRow.veiledFits Try.prog Try.f12.params.toList (Try.f12.params.toList ++ Rows.ratfValuesSpec.plain.varTypes Try.prog ++ Try.f12.resultTypes.toList) = true := by kernel_rfl
theorem closed : joinedFacts Try.prog 12 Try.f12 Rows.ratfValuesSpec Rows.ratfValuesRow = true :=
 Hd.closed_of e01 e04 e05 (by kernel_rfl) (by kernel_rfl) e10 e11 e12 e13 e14 e15 e16 e17 e18 e19 e20 e21 e22 (by kernel_rfl) rfl rfl rfl rfl rfl rfl e31 e32
theorem over : Rows.ratfValuesRow.holds Try.pinned (OpenSpec.ofChange Rows.ratfValuesSpec) :=
 OpenClaim.holds_of_wide 12 Try.f12 rfl rfl rfl rfl rfl rfl rfl ⟨rfl, rfl, rfl, rfl, rfl⟩ rfl rfl rfl rfl rfl named Try.func12 closed inst wrap
  (fun os started H enc _ => lifted os started H enc)

theorem proved : Rows.RatfValuesSaid := over
#print axioms proved
end Go.Proofs.Ytmmcffceeahemaa.ratfValues
