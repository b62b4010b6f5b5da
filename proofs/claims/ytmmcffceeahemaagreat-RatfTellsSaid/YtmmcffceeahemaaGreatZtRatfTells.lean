/-
  RatfTells: the right one of any function (of at most 4 coefficients of at most 1 word each; longer ones ask the chapter's examples alone), whether it is 0, or the same as another one, its value anywhere, and its derivative, are as the document has them; nothing that was there turns.
  Conditions: none.
-/
import Derived.Test.YtmmcffceeahemaaGreatZtHead
import Derived.Test.YtmmcffceeahemaaGreatZtFracHigh
import Derived.Test.YtmmcffceeahemaaGreatZtRatfTellsW
import Derived.Test.YtmmcffceeahemaaGreatZtShort
set_option linter.unusedVariables false
set_option linter.unusedSimpArgs false
namespace Go.Proofs.YtmmcffceeahemaaGreat.ratfTells
open Go.ChangeShapes Go.WideShapes Go.ChangeAt Go.RowKit
theorem walk {v u x : Value} {W : World} (h : ∃ V U rs ts, v = .agg #[V, U] ∧ RSq W V rs ∧ RSq W U ts) (h2 : ∃ V U rs ts, u = .agg #[V, U] ∧ RSq W V rs ∧ RSq W U ts) (h3 : ∃ s y d l m, x = .agg #[.bool s, y, d] ∧ Ws W y l ∧ Ws W d m) :
 Calls Tryz.prog 7 #[v, u, x] W fun e w' => e = .returned (.bool true) ∧ Below W.heap.size W w' := by
 obtain ⟨_, _, _, _, rfl, a1, a2⟩ := h
 obtain ⟨_, _, _, _, rfl, b1, b2⟩ := h2
 obtain ⟨_, _, _, _, _, rfl, c1, c2⟩ := h3
 exact ratfTells_walk a1 a2 b1 b2 c1 c2
open Hd (own laidOut)
set_option maxRecDepth 100000 in
theorem lifted (os : Os) (started : os.Started) (H : Type) (enc : TypeId × Value → H) :
 ReturnsInHanded {} Tryz.checked os 7 .any (Rows.ratfTellsSpec.pre6 enc Tryz.prog Tryz.f7 Rows.ratfTellsRow.domain false) (Rows.ratfTellsSpec.post enc Tryz.prog Tryz.f7 false true false false) := by
 refine returnsInHanded_of_change (C := Tryz.checked) own started (by kernel_rfl) Tryz.func7
  (ChangeSpec.witness6 (enc := enc) (C := Tryz.checked) false ⟨#[], #[.agg #[.slice none 0 0, .slice none 0 0], .agg #[.slice none 0 0, .slice none 0 0], .agg #[.bool false, .slice none 0 0, .slice none 0 0]], []⟩ 8 (by kernel_rfl) (by kernel_rfl) (by kernel_rfl) (by kernel_rfl)) ?_
 intro W base args ds gs before hval0 hW hcnd _
 have hval : ∀ (j : Nat) t v, Tryz.f7.params[j]? = some t → args[j]? = some v → Value.okWide Tryz.prog W .any base t v := hval0
 have hW' := hW
 obtain ⟨p, q, hA0, hV, rfl, hfz, hnd⟩ := hW
 have hA : DataW.TrodAll enc Tryz.prog W 0 (fun _ => true) true Tryz.f7.params.toList args.toList ds p := hA0
 rw [Tryz.params7] at hA hval
 obtain ⟨v0, vs0, d0, ds0, p0, q0, hargs, rfl, rfl, h0, r0⟩ := trodAll_cons hA
 obtain ⟨v1, vs1, d1, ds1, p1, q1, rfl, rfl, rfl, h1, r1⟩ := trodAll_cons r0
 obtain ⟨v2, vs2, d2, ds2, p2, q2, rfl, rfl, rfl, h2, r2⟩ := trodAll_cons r1
 obtain ⟨rfl, rfl, rfl⟩ := trodAll_nil r2
 obtain rfl : args = #[v0, v1, v2] := by cases args; simp_all
 obtain ⟨rfl, rfl⟩ := trodVars_none hV
 have k0 := h0
 have lt0 : ∀ x ∈ p0, x.block < W.heap.size := by obtain ⟨m, hm⟩ := k0; exact DataW.trod_lt m _ _ _ hm
 have k1 := h1
 have lt1 : ∀ x ∈ p1, x.block < W.heap.size := by obtain ⟨m, hm⟩ := k1; exact DataW.trod_lt m _ _ _ hm
 have k2 := h2
 have lt2 : ∀ x ∈ p2, x.block < W.heap.size := by obtain ⟨m, hm⟩ := k2; exact DataW.trod_lt m _ _ _ hm
 have s0 := open_fun (hval 0 80 v0 rfl rfl) h0
 have s1 := open_fun (hval 1 80 v1 rfl rfl) h1
 have s2 := open_frac (hval 2 24 v2 rfl rfl) h2
 clear hA0 hval0
 refine (walk s0 s1 s2).mono fun e W' ⟨he, bel⟩ => ?_
 subst he
 exact ⟨_, rfl, _, _, _, [], _, [], hW', trodAll_mk1 (shut_bool Tryz.underlying4 _), (trodAll_cons_mk (Below.trod laidOut (by kernel_rfl) (of_decide_eq_true (by kernel_rfl)) k0 bel lt0) (trodAll_cons_mk (Below.trod laidOut (by kernel_rfl) (of_decide_eq_true (by kernel_rfl)) k1 bel lt1) (trodAll_cons_mk (Below.trod laidOut (by kernel_rfl) (of_decide_eq_true (by kernel_rfl)) k2 bel lt2) trodAll_mk0))), rfl, bel.frame _, fun h => by cases h⟩
theorem named : Tryz.prog.funcNamed Rows.ratfTellsRow.func = some 7 := by kernel_rfl
theorem inst : Tryz.f7.isInstance Tryz.prog Rows.ratfTellsRow.origin Rows.ratfTellsRow.targs := of_decide_eq_true (by kernel_rfl)
theorem wrap : Tryz.f7.isWrapper Tryz.prog Rows.ratfTellsRow.wrapper Rows.ratfTellsRow.mainSum := by unfold Func.isWrapper; first | (rw [if_pos (by decide +kernel)]; kernel_rfl) | (rw [if_neg (by decide +kernel)]; exact ⟨rfl, rfl⟩)
theorem e01 : Rows.ratfTellsRow.wf (OpenSpec.ofChange Rows.ratfTellsSpec) = true := by kernel_rfl
theorem e04 : Tryz.f7.params.all (Tryz.prog.readableRec ·) = true := by kernel_rfl
theorem e05 : namedTie Tryz.prog Rows.ratfTellsRow.named Rows.ratfTellsSpec.vars = true := by kernel_rfl
theorem e10 : (Rows.ratfTellsRow.inPlace == Tryz.prog.inPlace 7) = true := by kernel_rfl
theorem e11 : (Rows.ratfTellsRow.unfollowed == Tryz.prog.unfollowed 7) = true := by kernel_rfl
theorem e12 : (Rows.ratfTellsRow.recurses == Tryz.prog.recurses 7) = true := by kernel_rfl
theorem e13 : (Rows.ratfTellsRow.named == Tryz.prog.varsNamed 7) = true := by kernel_rfl
theorem e14 : (Rows.ratfTellsRow.maps == (Tryz.f7.params.toList ++ Rows.ratfTellsSpec.plain.varTypes Tryz.prog).any (Tryz.prog.mapsRec ·)) = true := by kernel_rfl
theorem e15 : (Rows.ratfTellsRow.ifaces == (Tryz.f7.params.toList ++ Rows.ratfTellsSpec.plain.varTypes Tryz.prog).any (Tryz.prog.ifacesRec ·)) = true := by kernel_rfl
theorem e16 : (Rows.ratfTellsRow.mapsOut == Tryz.prog.mapsAmong Tryz.f7.resultTypes.toList) = true := by kernel_rfl
theorem e17 : (Rows.ratfTellsRow.loops == (Tryz.f7.params.toList ++ Rows.ratfTellsSpec.plain.varTypes Tryz.prog).any (Tryz.prog.loopsFrom ·)) = true := by kernel_rfl
theorem e18 : (Rows.ratfTellsRow.wideKeys == (Tryz.f7.params.toList ++ Rows.ratfTellsSpec.plain.varTypes Tryz.prog ++ Tryz.f7.resultTypes.toList).any (Tryz.prog.wideKeysFrom ·)) = true := by kernel_rfl
theorem e19 : Rows.ratfTellsSpec.vars.all (Tryz.prog.varReadable ·) = true := by kernel_rfl
theorem e20 : Tryz.f7.resultTypes.all (fun t => Tryz.prog.readableRec t && decide (t < Tryz.prog.types.size)) = true := by kernel_rfl
theorem e21 : (Rows.ratfTellsRow.ifacesOut == Tryz.f7.resultTypes.toList.any (Tryz.prog.ifacesRec ·)) = true := by kernel_rfl
theorem e22 : (Rows.ratfTellsRow.loopsOut == Tryz.f7.resultTypes.toList.any (Tryz.prog.loopsFrom ·)) = true := by kernel_rfl
theorem e31 : (Rows.ratfTellsRow.veiled == (Tryz.f7.params.toList ++ Rows.ratfTellsSpec.plain.varTypes Tryz.prog ++ Tryz.f7.resultTypes.toList).any (Tryz.prog.veiledRec ·)) = true := by kernel_rfl
theorem e32 : Rows.ratfTellsRow.veiledFits Tryz.prog Tryz.f7.params.toList (Tryz.f7.params.toList ++ Rows.ratfTellsSpec.plain.varTypes Tryz.prog ++ Tryz.f7.resultTypes.toList) = true := by kernel_rfl
theorem closed : joinedFacts Tryz.prog 7 Tryz.f7 Rows.ratfTellsSpec Rows.ratfTellsRow = true :=
 Hd.closed_of e01 e04 e05 (by kernel_rfl) (by kernel_rfl) e10 e11 e12 e13 e14 e15 e16 e17 e18 e19 e20 e21 e22 (by kernel_rfl) rfl rfl rfl rfl rfl rfl e31 e32
theorem over : Rows.ratfTellsRow.holds Tryz.pinned (OpenSpec.ofChange Rows.ratfTellsSpec) :=
 OpenClaim.holds_of_wide 7 Tryz.f7 rfl rfl rfl rfl rfl rfl rfl ⟨rfl, rfl, rfl, rfl, rfl⟩ rfl rfl rfl rfl rfl named Tryz.func7 closed inst wrap
  (fun os started H enc _ => lifted os started H enc)
theorem proved : Rows.RatfTellsSaid := over
#print axioms proved
end Go.Proofs.YtmmcffceeahemaaGreat.ratfTells
