/-
  PolyCommon: the common divisor of two polynomials divides both; behind a product with a third one it is the product, but for a factor; what is divided comes back with what is left, which has a lesser degree than the divisor (of at most 5 coefficients of at most 1 word each, the third of at most 4; longer ones ask the chapter's examples alone); nothing that was there turns.
  Conditions: none.
-/
import Derived.Test.YtmmcffceeahemaaHead
import Derived.Test.YtmmcffceeahemaaPolyCommonW
namespace Go.Proofs.Ytmmcffceeahemaa.polyCommon
open Go.ChangeShapes Go.WideShapes Go.ChangeAt Go.RowKit
set_option linter.unusedVariables false

theorem walk {v u x : Value} {W : World} (h : ∃ rs, Sq Rw W v rs) (h' : ∃ rs, Sq Rw W u rs) (h'' : ∃ rs, Sq Rw W x rs) : Calls Try.prog 11 #[v, u, x] W fun e w' => e = .returned (.bool true) ∧ Below W.heap.size W w' := by
  obtain ⟨rs, h⟩ := h
  obtain ⟨ts, h'⟩ := h'
  obtain ⟨ys, h''⟩ := h''
  exact polyCommon_walk h h' h''

open Hd (own laidOut)

set_option maxRecDepth 100000 in
theorem lifted (os : Os) (started : os.Started) (H : Type) (enc : TypeId × Value → H) :
    ReturnsInHanded {} Try.checked os 11 .any (Rows.polyCommonSpec.pre6 enc Try.prog Try.f11 Rows.polyCommonRow.domain false) (Rows.polyCommonSpec.post enc Try.prog Try.f11 false true false false) := by
  refine returnsInHanded_of_change (C := Try.checked) own started (by kernel_rfl) Try.func11
    (ChangeSpec.witness6 (enc := enc) (C := Try.checked) false ⟨#[], #[.slice none 0 0, .slice none 0 0, .slice none 0 0], []⟩ 8 (by kernel_rfl) (by kernel_rfl) (by kernel_rfl) (by kernel_rfl)) ?_
  intro W base args ds gs before hval0 hW hcnd _
  have hval : ∀ (j : Nat) t v, Try.f11.params[j]? = some t → args[j]? = some v → Value.okWide Try.prog W .any base t v := hval0
  have hW' := hW
  obtain ⟨p, q, hA0, hV, rfl, hfz, hnd⟩ := hW
  have hA : DataW.TrodAll enc Try.prog W 0 (fun _ => true) true Try.f11.params.toList args.toList ds p := hA0
  rw [Try.params11] at hA hval
  obtain ⟨v0, vs0, d0, ds0, p0, q0, hargs, rfl, rfl, h0, r0⟩ := trodAll_cons hA
  obtain ⟨v1, vs1, d1, ds1, p1, q1, rfl, rfl, rfl, h1, r1⟩ := trodAll_cons r0
  obtain ⟨v2, vs2, d2, ds2, p2, q2, rfl, rfl, rfl, h2, r2⟩ := trodAll_cons r1
  obtain ⟨rfl, rfl, rfl⟩ := trodAll_nil r2
  obtain rfl : args = #[v0, v1, v2] := by cases args; simp_all
  obtain ⟨rfl, rfl⟩ := trodVars_none hV
  have k0 := h0
  have lt0 : ∀ x ∈ p0, x.block < W.heap.size := by obtain ⟨m, hm⟩ := k0; exact DataW.trod_lt m _ _ _ hm
  have k1 := h1
  have lt1 : ∀ x ∈ p1, x.block < W.heap.size := by obtain ⟨m, hm⟩ := k1; exact DataW.trod_lt m _ _ _ hm
  have k2 := h2
  have lt2 : ∀ x ∈ p2, x.block < W.heap.size := by obtain ⟨m, hm⟩ := k2; exact DataW.trod_lt m _ _ _ hm
  have s0 := open_fracs (hval 0 43 v0 rfl rfl) h0
  have s1 := open_fracs (hval 1 43 v1 rfl rfl) h1
  have s2 := open_fracs (hval 2 43 v2 rfl rfl) h2
  clear hA0 hval0
  refine (walk s0 s1 s2).mono fun e W' ⟨he, bel⟩ => ?_
  subst he
  exact ⟨_, rfl, _, _, _, [], _, [], hW', trodAll_mk1 (shut_bool Try.underlying4 _), (trodAll_cons_mk (Below.trod laidOut (by kernel_rfl) (of_decide_eq_true (by kernel_rfl)) k0 bel lt0) (trodAll_cons_mk (Below.trod laidOut (by kernel_rfl) (of_decide_eq_true (by kernel_rfl)) k1 bel lt1) (trodAll_cons_mk (Below.trod laidOut (by kernel_rfl) (of_decide_eq_true (by kernel_rfl)) k2 bel lt2) trodAll_mk0))), rfl, bel.frame _, fun h => by cases h⟩

theorem named : Try.prog.funcNamed Rows.polyCommonRow.func = some 11 := by kernel_rfl
theorem inst : Try.f11.isInstance Try.prog Rows.polyCommonRow.origin Rows.polyCommonRow.targs := of_decide_eq_true (by kernel_rfl)
theorem wrap : Try.f11.isWrapper Try.prog Rows.polyCommonRow.wrapper Rows.polyCommonRow.mainSum := by unfold Func.isWrapper; first | (rw [if_pos (by decide +kernel)]; kernel_rfl) | (rw [if_neg (by decide +kernel)]; exact ⟨rfl, rfl⟩)
theorem e01 : Rows.polyCommonRow.wf (OpenSpec.ofChange Rows.polyCommonSpec) = true := by kernel_rfl
theorem e04 : Try.f11.params.all (Try.prog.readableRec ·) = true := by kernel_rfl
theorem e05 : namedTie Try.prog Rows.polyCommonRow.named Rows.polyCommonSpec.vars = true := by kernel_rfl
theorem e10 : (Rows.polyCommonRow.inPlace == Try.prog.inPlace 11) = true := by kernel_rfl
theorem e11 : (Rows.polyCommonRow.unfollowed == Try.prog.unfollowed 11) = true := by kernel_rfl
theorem e12 : (Rows.polyCommonRow.recurses == Try.prog.recurses 11) = true := by kernel_rfl
theorem e13 : (Rows.polyCommonRow.named == Try.prog.varsNamed 11) = true := by kernel_rfl
theorem e14 : (Rows.polyCommonRow.maps == (Try.f11.params.toList ++ Rows.polyCommonSpec.plain.varTypes Try.prog).any (Try.prog.mapsRec ·)) = true := by kernel_rfl
theorem e15 : (Rows.polyCommonRow.ifaces == (Try.f11.params.toList ++ Rows.polyCommonSpec.plain.varTypes Try.prog).any (Try.prog.ifacesRec ·)) = true := by kernel_rfl
theorem e16 : (Rows.polyCommonRow.mapsOut == Try.prog.mapsAmong Try.f11.resultTypes.toList) = true := by kernel_rfl
theorem e17 : (Rows.polyCommonRow.loops == (Try.f11.params.toList ++ Rows.polyCommonSpec.plain.varTypes Try.prog).any (Try.prog.loopsFrom ·)) = true := by kernel_rfl
theorem e18 : (Rows.polyCommonRow.wideKeys == (Try.f11.params.toList ++ Rows.polyCommonSpec.plain.varTypes Try.prog ++ Try.f11.resultTypes.toList).any (Try.prog.wideKeysFrom ·)) = true := by kernel_rfl
theorem e19 : Rows.polyCommonSpec.vars.all (Try.prog.varReadable ·) = true := by kernel_rfl
theorem e20 : Try.f11.resultTypes.all (fun t => Try.prog.readableRec t && decide (t < Try.prog.types.size)) = true := by kernel_rfl
theorem e21 : (Rows.polyCommonRow.ifacesOut == Try.f11.resultTypes.toList.any (Try.prog.ifacesRec ·)) = true := by kernel_rfl
theorem e22 : (Rows.polyCommonRow.loopsOut == Try.f11.resultTypes.toList.any (Try.prog.loopsFrom ·)) = true := by kernel_rfl
theorem e31 : (Rows.polyCommonRow.veiled == (Try.f11.params.toList ++ Rows.polyCommonSpec.plain.varTypes Try.prog ++ Try.f11.resultTypes.toList).any (Try.prog.veiledRec ·)) = true := by kernel_rfl
theorem e32 : Rows.polyCommonRow.veiledFits Try.prog Try.f11.params.toList (Try.f11.params.toList ++ Rows.polyCommonSpec.plain.varTypes Try.prog ++ Try.f11.resultTypes.toList) = true := by kernel_rfl
theorem closed : joinedFacts Try.prog 11 Try.f11 Rows.polyCommonSpec Rows.polyCommonRow = true :=
  Hd.closed_of e01 e04 e05 (by kernel_rfl) (by kernel_rfl) e10 e11 e12 e13 e14 e15 e16 e17 e18 e19 e20 e21 e22 (by kernel_rfl) rfl rfl rfl rfl rfl rfl e31 e32
theorem over : Rows.polyCommonRow.holds Try.pinned (OpenSpec.ofChange Rows.polyCommonSpec) :=
  OpenClaim.holds_of_wide 11 Try.f11 rfl rfl rfl rfl rfl rfl rfl ⟨rfl, rfl, rfl, rfl, rfl⟩ rfl rfl rfl rfl rfl named Try.func11 closed inst wrap
    (fun os started H enc _ => lifted os started H enc)

theorem proved : Rows.PolyCommonSaid := over
#print axioms proved
end Go.Proofs.Ytmmcffceeahemaa.polyCommon
