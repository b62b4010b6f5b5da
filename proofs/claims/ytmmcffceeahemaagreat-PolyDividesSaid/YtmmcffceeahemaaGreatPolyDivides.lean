/-
  PolyDivides: the derivative of any polynomial, any two divided, and their common divisor, are as the document has them (of at most 7 coefficients of at most 2 words each; longer ones ask the chapter's examples alone); nothing that was there turns.
  Conditions: none.
-/
import Derived.Test.YtmmcffceeahemaaGreatHead
import Derived.Test.YtmmcffceeahemaaGreatPolyDividesW
namespace Go.Proofs.YtmmcffceeahemaaGreat.polyDivides
open Go.ChangeShapes Go.WideShapes Go.ChangeAt Go.RowKit
set_option linter.unusedVariables false

theorem walk {v u : Value} {W : World} (h : ∃ rs, Sq Rw W v rs) (h2 : ∃ rs, Sq Rw W u rs) :
 Calls Tryz.prog 5 #[v, u] W fun e w' => e = .returned (.bool true) ∧ Below W.heap.size W w' := by
 obtain ⟨rs, h⟩ := h
 obtain ⟨ts, h2⟩ := h2
 exact polyDivides_walk h h2

open Hd (own laidOut)

set_option maxRecDepth 100000 in
theorem lifted (os : Os) (started : os.Started) (H : Type) (enc : TypeId × Value → H) :
 ReturnsInHanded {} Tryz.checked os 5 .any (Rows.polyDividesSpec.pre6 enc Tryz.prog Tryz.f5 Rows.polyDividesRow.domain false) (Rows.polyDividesSpec.post enc Tryz.prog Tryz.f5 false true false false) := by
 refine returnsInHanded_of_change (C := Tryz.checked) own started (by kernel_rfl) Tryz.func5
  (ChangeSpec.witness6 (enc := enc) (C := Tryz.checked) false ⟨#[], #[.slice none 0 0, .slice none 0 0], []⟩ 8 (by kernel_rfl) (by kernel_rfl) (by kernel_rfl) (by kernel_rfl)) ?_
 intro W base args ds gs before hval0 hW hcnd _
 have hval : ∀ (j : Nat) t v, Tryz.f5.params[j]? = some t → args[j]? = some v → Value.okWide Tryz.prog W .any base t v := hval0
 have hW' := hW
 obtain ⟨p, q, hA0, hV, rfl, hfz, hnd⟩ := hW
 have hA : DataW.TrodAll enc Tryz.prog W 0 (fun _ => true) true Tryz.f5.params.toList args.toList ds p := hA0
 rw [Tryz.params5] at hA hval
 obtain ⟨v0, vs0, d0, ds0, p0, q0, hargs, rfl, rfl, h0, r0⟩ := trodAll_cons hA
 obtain ⟨v1, vs1, d1, ds1, p1, q1, rfl, rfl, rfl, h1, r1⟩ := trodAll_cons r0
 obtain ⟨rfl, rfl, rfl⟩ := trodAll_nil r1
 obtain rfl : args = #[v0, v1] := by cases args; simp_all
 obtain ⟨rfl, rfl⟩ := trodVars_none hV
 have k0 := h0
 have lt0 : ∀ x ∈ p0, x.block < W.heap.size := by obtain ⟨m, hm⟩ := k0; exact DataW.trod_lt m _ _ _ hm
 have k1 := h1
 have lt1 : ∀ x ∈ p1, x.block < W.heap.size := by obtain ⟨m, hm⟩ := k1; exact DataW.trod_lt m _ _ _ hm
 have s0 := open_fracs (hval 0 44 v0 rfl rfl) h0
 have s1 := open_fracs (hval 1 44 v1 rfl rfl) h1
 clear hA0 hval0
 refine (walk s0 s1).mono fun e W' ⟨he, bel⟩ => ?_
 subst he
 exact ⟨_, rfl, _, _, _, [], _, [], hW', trodAll_mk1 (shut_bool Tryz.underlying4 _), (trodAll_cons_mk (Below.trod laidOut (by kernel_rfl) (of_decide_eq_true (by kernel_rfl)) k0 bel lt0) (trodAll_cons_mk (Below.trod laidOut (by kernel_rfl) (of_decide_eq_true (by kernel_rfl)) k1 bel lt1) trodAll_mk0)), rfl, bel.frame _, fun h => by cases h⟩

theorem named : Tryz.prog.funcNamed Rows.polyDividesRow.func = some 5 := by kernel_rfl
theorem inst : Tryz.f5.isInstance Tryz.prog Rows.polyDividesRow.origin Rows.polyDividesRow.targs := of_decide_eq_true (by kernel_rfl)
theorem wrap : Tryz.f5.isWrapper Tryz.prog Rows.polyDividesRow.wrapper Rows.polyDividesRow.mainSum := by unfold Func.isWrapper; first | (rw [if_pos (by decide +kernel)]; kernel_rfl) | (rw [if_neg (by decide +kernel)]; exact ⟨rfl, rfl⟩)
theorem e01 : Rows.polyDividesRow.wf (OpenSpec.ofChange Rows.polyDividesSpec) = true := by kernel_rfl
theorem e04 : Tryz.f5.params.all (Tryz.prog.readableRec ·) = true := by kernel_rfl
theorem e05 : namedTie Tryz.prog Rows.polyDividesRow.named Rows.polyDividesSpec.vars = true := by kernel_rfl
theorem e10 : (Rows.polyDividesRow.inPlace == Tryz.prog.inPlace 5) = true := by kernel_rfl
theorem e11 : (Rows.polyDividesRow.unfollowed == Tryz.prog.unfollowed 5) = true := by kernel_rfl
theorem e12 : (Rows.polyDividesRow.recurses == Tryz.prog.recurses 5) = true := by kernel_rfl
theorem e13 : (Rows.polyDividesRow.named == Tryz.prog.varsNamed 5) = true := by kernel_rfl
theorem e14 : (Rows.polyDividesRow.maps == (Tryz.f5.params.toList ++ Rows.polyDividesSpec.plain.varTypes Tryz.prog).any (Tryz.prog.mapsRec ·)) = true := by kernel_rfl
theorem e15 : (Rows.polyDividesRow.ifaces == (Tryz.f5.params.toList ++ Rows.polyDividesSpec.plain.varTypes Tryz.prog).any (Tryz.prog.ifacesRec ·)) = true := by kernel_rfl
theorem e16 : (Rows.polyDividesRow.mapsOut == Tryz.prog.mapsAmong Tryz.f5.resultTypes.toList) = true := by kernel_rfl
theorem e17 : (Rows.polyDividesRow.loops == (Tryz.f5.params.toList ++ Rows.polyDividesSpec.plain.varTypes Tryz.prog).any (Tryz.prog.loopsFrom ·)) = true := by kernel_rfl
theorem e18 : (Rows.polyDividesRow.wideKeys == (Tryz.f5.params.toList ++ Rows.polyDividesSpec.plain.varTypes Tryz.prog ++ Tryz.f5.resultTypes.toList).any (Tryz.prog.wideKeysFrom ·)) = true := by kernel_rfl
theorem e19 : Rows.polyDividesSpec.vars.all (Tryz.prog.varReadable ·) = true := by kernel_rfl
theorem e20 : Tryz.f5.resultTypes.all (fun t => Tryz.prog.readableRec t && decide (t < Tryz.prog.types.size)) = true := by kernel_rfl
theorem e21 : (Rows.polyDividesRow.ifacesOut == Tryz.f5.resultTypes.toList.any (Tryz.prog.ifacesRec ·)) = true := by kernel_rfl
theorem e22 : (Rows.polyDividesRow.loopsOut == Tryz.f5.resultTypes.toList.any (Tryz.prog.loopsFrom ·)) = true := by kernel_rfl
theorem e31 : (Rows.polyDividesRow.veiled == (Tryz.f5.params.toList ++ Rows.polyDividesSpec.plain.varTypes Tryz.prog ++ Tryz.f5.resultTypes.toList).any (Tryz.prog.veiledRec ·)) = true := by kernel_rfl
theorem e32 : Rows.polyDividesRow.veiledFits Tryz.prog Tryz.f5.params.toList (Tryz.f5.params.toList ++ Rows.polyDividesSpec.plain.varTypes Tryz.prog ++ Tryz.f5.resultTypes.toList) = true := by kernel_rfl
theorem closed : joinedFacts Tryz.prog 5 Tryz.f5 Rows.polyDividesSpec Rows.polyDividesRow = true :=
 Hd.closed_of e01 e04 e05 (by kernel_rfl) (by kernel_rfl) e10 e11 e12 e13 e14 e15 e16 e17 e18 e19 e20 e21 e22 (by kernel_rfl) rfl rfl rfl rfl rfl rfl e31 e32
theorem over : Rows.polyDividesRow.holds Tryz.pinned (OpenSpec.ofChange Rows.polyDividesSpec) :=
 OpenClaim.holds_of_wide 5 Tryz.f5 rfl rfl rfl rfl rfl rfl rfl ⟨rfl, rfl, rfl, rfl, rfl⟩ rfl rfl rfl rfl rfl named Tryz.func5 closed inst wrap
  (fun os started H enc _ => lifted os started H enc)

theorem proved : Rows.PolyDividesSaid := over
#print axioms proved
end Go.Proofs.YtmmcffceeahemaaGreat.polyDivides
