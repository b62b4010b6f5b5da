/-
  RatfSums: sum, difference, product and quotient of any two functions (of at most 3 coefficients of at most 1 word each; longer ones ask the chapter's examples alone), by 0 too, and powers (exponents from -3 to 3, or none), are as the document has them; nothing that was there turns.
  Conditions: none.
-/
import Derived.Test.YtmmcffceeahemaaGreatZsHead
import Derived.Test.YtmmcffceeahemaaGreatZsFracHigh
import Derived.Test.YtmmcffceeahemaaGreatZsRatfSumsW
import Derived.Test.YtmmcffceeahemaaGreatZsShort
set_option linter.unusedVariables false
set_option linter.unusedSimpArgs false
namespace Go.Proofs.YtmmcffceeahemaaGreat.ratfSums
open Go.ChangeShapes Go.WideShapes Go.ChangeAt Go.RowKit
theorem walk {v u : Value} {W : World} (h : ∃ V U rs ts, v = .agg #[V, U] ∧ RSq W V rs ∧ RSq W U ts) (h2 : ∃ V U rs ts, u = .agg #[V, U] ∧ RSq W V rs ∧ RSq W U ts) (e : Int) (we : (Lit.int .i64 e).wf = true) :
 Calls Tryz.prog 8 #[v, u, .int .i64 e] W fun e w' => e = .returned (.bool true) ∧ Below W.heap.size W w' := by
 obtain ⟨_, _, _, _, rfl, a1, a2⟩ := h
 obtain ⟨_, _, _, _, rfl, b1, b2⟩ := h2
 exact ratfSums_walk a1 a2 b1 b2 (bounds_i64 we)
open Hd (own laidOut)
set_option maxRecDepth 100000 in
theorem lifted (os : Os) (started : os.Started) (H : Type) (enc : TypeId × Value → H) :
 ReturnsInHanded {} Tryz.checked os 8 .any (Rows.ratfSumsSpec.pre6 enc Tryz.prog Tryz.f8 Rows.ratfSumsRow.domain false) (Rows.ratfSumsSpec.post enc Tryz.prog Tryz.f8 false true false false) := by
 refine returnsInHanded_of_change (C := Tryz.checked) own started (by kernel_rfl) Tryz.func8
  (ChangeSpec.witness6 (enc := enc) (C := Tryz.checked) false ⟨#[], #[.agg #[.slice none 0 0, .slice none 0 0], .agg #[.slice none 0 0, .slice none 0 0], .int .i64 0], []⟩ 8 (by kernel_rfl) (by kernel_rfl) (by kernel_rfl) (by kernel_rfl)) ?_
 intro W base args ds gs before hval0 hW hcnd _
 have hval : ∀ (j : Nat) t v, Tryz.f8.params[j]? = some t → args[j]? = some v → Value.okWide Tryz.prog W .any base t v := hval0
 have hW' := hW
 obtain ⟨p, q, hA0, hV, rfl, hfz, hnd⟩ := hW
 have hA : DataW.TrodAll enc Tryz.prog W 0 (fun _ => true) true Tryz.f8.params.toList args.toList ds p := hA0
 rw [Tryz.params8] at hA hval
 obtain ⟨v0, vs0, d0, ds0, p0, q0, hargs, rfl, rfl, h0, r0⟩ := trodAll_cons hA
 obtain ⟨v1, vs1, d1, ds1, p1, q1, rfl, rfl, rfl, h1, r1⟩ := trodAll_cons r0
 obtain ⟨v2, vs2, d2, ds2, p2, q2, rfl, rfl, rfl, h2, r2⟩ := trodAll_cons r1
 obtain ⟨rfl, rfl, rfl⟩ := trodAll_nil r2
 obtain rfl : args = #[v0, v1, v2] := by cases args; simp_all
 obtain ⟨rfl, rfl⟩ := trodVars_none hV
 have k0 := h0
 have lt0 : ∀ x ∈ p0, x.block < W.heap.size := by obtain ⟨m, hm⟩ := k0; exact DataW.trod_lt m _ _ _ hm
 have k1 := h1
 have lt1 : ∀ x ∈ p1, x.block < W.heap.size := by obtain ⟨m, hm⟩ := k1; exact DataW.trod_lt m _ _ _ hm
 have k2 := h2
 have lt2 : ∀ x ∈ p2, x.block < W.heap.size := by obtain ⟨m, hm⟩ := k2; exact DataW.trod_lt m _ _ _ hm
 have s0 := open_fun (hval 0 80 v0 rfl rfl) h0
 have s1 := open_fun (hval 1 80 v1 rfl rfl) h1
 obtain ⟨a2, rfl, rfl, rfl, w2⟩ := open_int Tryz.underlying3 (hval 2 3 v2 rfl rfl) h2
 clear hA0 hval0
 refine (walk s0 s1 a2 w2).mono fun e W' ⟨he, bel⟩ => ?_
 subst he
 exact ⟨_, rfl, _, _, _, [], _, [], hW', trodAll_mk1 (shut_bool Tryz.underlying4 _), (trodAll_cons_mk (Below.trod laidOut (by kernel_rfl) (of_decide_eq_true (by kernel_rfl)) k0 bel lt0) (trodAll_cons_mk (Below.trod laidOut (by kernel_rfl) (of_decide_eq_true (by kernel_rfl)) k1 bel lt1) (trodAll_cons_mk (Below.trod laidOut (by kernel_rfl) (of_decide_eq_true (by kernel_rfl)) k2 bel lt2) trodAll_mk0))), rfl, bel.frame _, fun h => by cases h⟩
theorem named : Tryz.prog.funcNamed Rows.ratfSumsRow.func = some 8 := by kernel_rfl
theorem inst : Tryz.f8.isInstance Tryz.prog Rows.ratfSumsRow.origin Rows.ratfSumsRow.targs := of_decide_eq_true (by kernel_rfl)
theorem wrap : Tryz.f8.isWrapper Tryz.prog Rows.ratfSumsRow.wrapper Rows.ratfSumsRow.mainSum := by unfold Func.isWrapper; first | (rw [if_pos (by decide +kernel)]; kernel_rfl) | (rw [if_neg (by decide +kernel)]; exact ⟨rfl, rfl⟩)
theorem e01 : Rows.ratfSumsRow.wf (OpenSpec.ofChange Rows.ratfSumsSpec) = true := by kernel_rfl
theorem e04 : Tryz.f8.params.all (Tryz.prog.readableRec ·) = true := by kernel_rfl
theorem e05 : namedTie Tryz.prog Rows.ratfSumsRow.named Rows.ratfSumsSpec.vars = true := by kernel_rfl
theorem e10 : (Rows.ratfSumsRow.inPlace == Tryz.prog.inPlace 8) = true := by kernel_rfl
theorem e11 : (Rows.ratfSumsRow.unfollowed == Tryz.prog.unfollowed 8) = true := by kernel_rfl
theorem e12 : (Rows.ratfSumsRow.recurses == Tryz.prog.recurses 8) = true := by kernel_rfl
theorem e13 : (Rows.ratfSumsRow.named == Tryz.prog.varsNamed 8) = true := by kernel_rfl
theorem e14 : (Rows.ratfSumsRow.maps == (Tryz.f8.params.toList ++ Rows.ratfSumsSpec.plain.varTypes Tryz.prog).any (Tryz.prog.mapsRec ·)) = true := by kernel_rfl
theorem e15 : (Rows.ratfSumsRow.ifaces == (Tryz.f8.params.toList ++ Rows.ratfSumsSpec.plain.varTypes Tryz.prog).any (Tryz.prog.ifacesRec ·)) = true := by kernel_rfl
theorem e16 : (Rows.ratfSumsRow.mapsOut == Tryz.prog.mapsAmong Tryz.f8.resultTypes.toList) = true := by kernel_rfl
theorem e17 : (Rows.ratfSumsRow.loops == (Tryz.f8.params.toList ++ Rows.ratfSumsSpec.plain.varTypes Tryz.prog).any (Tryz.prog.loopsFrom ·)) = true := by kernel_rfl
theorem e18 : (Rows.ratfSumsRow.wideKeys == (Tryz.f8.params.toList ++ Rows.ratfSumsSpec.plain.varTypes Tryz.prog ++ Tryz.f8.resultTypes.toList).any (Tryz.prog.wideKeysFrom ·)) = true := by kernel_rfl
theorem e19 : Rows.ratfSumsSpec.vars.all (Tryz.prog.varReadable ·) = true := by kernel_rfl
theorem e20 : Tryz.f8.resultTypes.all (fun t => Tryz.prog.readableRec t && decide (t < Tryz.prog.types.size)) = true := by kernel_rfl
theorem e21 : (Rows.ratfSumsRow.ifacesOut == Tryz.f8.resultTypes.toList.any (Tryz.prog.ifacesRec ·)) = true := by kernel_rfl
theorem e22 : (Rows.ratfSumsRow.loopsOut == Tryz.f8.resultTypes.toList.any (Tryz.prog.loopsFrom ·)) = true := by kernel_rfl
theorem e31 : (Rows.ratfSumsRow.veiled == (Tryz.f8.params.toList ++ Rows.ratfSumsSpec.plain.varTypes Tryz.prog ++ Tryz.f8.resultTypes.toList).any (Tryz.prog.veiledRec ·)) = true := by kernel_rfl
theorem e32 : Rows.ratfSumsRow.veiledFits Tryz.prog Tryz.f8.params.toList (Tryz.f8.params.toList ++ Rows.ratfSumsSpec.plain.varTypes Tryz.prog ++ Tryz.f8.resultTypes.toList) = true := by kernel_rfl
theorem closed : joinedFacts Tryz.prog 8 Tryz.f8 Rows.ratfSumsSpec Rows.ratfSumsRow = true :=
 Hd.closed_of e01 e04 e05 (by kernel_rfl) (by kernel_rfl) e10 e11 e12 e13 e14 e15 e16 e17 e18 e19 e20 e21 e22 (by kernel_rfl) rfl rfl rfl rfl rfl rfl e31 e32
theorem over : Rows.ratfSumsRow.holds Tryz.pinned (OpenSpec.ofChange Rows.ratfSumsSpec) :=
 OpenClaim.holds_of_wide 8 Tryz.f8 rfl rfl rfl rfl rfl rfl rfl ⟨rfl, rfl, rfl, rfl, rfl⟩ rfl rfl rfl rfl rfl named Tryz.func8 closed inst wrap
  (fun os started H enc _ => lifted os started H enc)
theorem proved : Rows.RatfSumsSaid := over
#print axioms proved
end Go.Proofs.YtmmcffceeahemaaGreat.ratfSums
