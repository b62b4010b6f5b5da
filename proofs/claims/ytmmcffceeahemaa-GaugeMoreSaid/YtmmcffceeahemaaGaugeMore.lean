/-
  GaugeMore: a row that goes through a limit goes through each greater one; it goes through just if the longest of it is at most as long as the limit (of at most 20 fractions of at most 200 words; other rows and limits ask the chapter's example alone); nothing that was there turns.
  Conditions: none.
-/
import Derived.Test.YtmmcffceeahemaaHead
import Derived.Test.YtmmcffceeahemaaGaugeMoreW
namespace Go.Proofs.Ytmmcffceeahemaa.gaugeMore
open Go.ChangeShapes Go.WideShapes Go.ChangeAt Go.RowKit
set_option linter.unusedVariables false

theorem walk {v : Value} {W : World} (a : Int) (wa : (Lit.int .i64 a).wf = true) (b : Int) (wb : (Lit.int .i64 b).wf = true) (h : ∃ rs, Sq Rw W v rs) : Calls Try.prog 4 #[.int .i64 a, .int .i64 b, v] W fun e w' => e = .returned (.bool true) ∧ Below W.heap.size W w' := by
  obtain ⟨rs, h⟩ := h
  exact gaugeMore_walk h (bounds_i64 wa) (bounds_i64 wb)

open Hd (own laidOut)

set_option maxRecDepth 100000 in
theorem lifted (os : Os) (started : os.Started) (H : Type) (enc : TypeId × Value → H) :
    ReturnsInHanded {} Try.checked os 4 .any (Rows.gaugeMoreSpec.pre6 enc Try.prog Try.f4 Rows.gaugeMoreRow.domain false) (Rows.gaugeMoreSpec.post enc Try.prog Try.f4 false true false false) := by
  refine returnsInHanded_of_change (C := Try.checked) own started (by kernel_rfl) Try.func4
    (ChangeSpec.witness6 (enc := enc) (C := Try.checked) false ⟨#[], #[.int .i64 0, .int .i64 0, .slice none 0 0], []⟩ 8 (by kernel_rfl) (by kernel_rfl) (by kernel_rfl) (by kernel_rfl)) ?_
  intro W base args ds gs before hval0 hW hcnd _
  have hval : ∀ (j : Nat) t v, Try.f4.params[j]? = some t → args[j]? = some v → Value.okWide Try.prog W .any base t v := hval0
  have hW' := hW
  obtain ⟨p, q, hA0, hV, rfl, hfz, hnd⟩ := hW
  have hA : DataW.TrodAll enc Try.prog W 0 (fun _ => true) true Try.f4.params.toList args.toList ds p := hA0
  rw [Try.params4] at hA hval
  obtain ⟨v0, vs0, d0, ds0, p0, q0, hargs, rfl, rfl, h0, r0⟩ := trodAll_cons hA
  obtain ⟨v1, vs1, d1, ds1, p1, q1, rfl, rfl, rfl, h1, r1⟩ := trodAll_cons r0
  obtain ⟨v2, vs2, d2, ds2, p2, q2, rfl, rfl, rfl, h2, r2⟩ := trodAll_cons r1
  obtain ⟨rfl, rfl, rfl⟩ := trodAll_nil r2
  obtain rfl : args = #[v0, v1, v2] := by cases args; simp_all
  obtain ⟨rfl, rfl⟩ := trodVars_none hV
  have k0 := h0
  have lt0 : ∀ x ∈ p0, x.block < W.heap.size := by obtain ⟨m, hm⟩ := k0; exact DataW.trod_lt m _ _ _ hm
  have k1 := h1
  have lt1 : ∀ x ∈ p1, x.block < W.heap.size := by obtain ⟨m, hm⟩ := k1; exact DataW.trod_lt m _ _ _ hm
  have k2 := h2
  have lt2 : ∀ x ∈ p2, x.block < W.heap.size := by obtain ⟨m, hm⟩ := k2; exact DataW.trod_lt m _ _ _ hm
  obtain ⟨a0, rfl, rfl, rfl, w0⟩ := open_int Try.underlying3 (hval 0 3 v0 rfl rfl) h0
  obtain ⟨a1, rfl, rfl, rfl, w1⟩ := open_int Try.underlying3 (hval 1 3 v1 rfl rfl) h1
  have s2 := open_fracs (hval 2 43 v2 rfl rfl) h2
  clear hA0 hval0
  refine (walk a0 w0 a1 w1 s2).mono fun e W' ⟨he, bel⟩ => ?_
  subst he
  exact ⟨_, rfl, _, _, _, [], _, [], hW', trodAll_mk1 (shut_bool Try.underlying4 _), (trodAll_cons_mk (Below.trod laidOut (by kernel_rfl) (of_decide_eq_true (by kernel_rfl)) k0 bel lt0) (trodAll_cons_mk (Below.trod laidOut (by kernel_rfl) (of_decide_eq_true (by kernel_rfl)) k1 bel lt1) (trodAll_cons_mk (Below.trod laidOut (by kernel_rfl) (of_decide_eq_true (by kernel_rfl)) k2 bel lt2) trodAll_mk0))), rfl, bel.frame _, fun h => by cases h⟩

theorem named : Try.prog.funcNamed Rows.gaugeMoreRow.func = some 4 := by kernel_rfl
theorem inst : Try.f4.isInstance Try.prog Rows.gaugeMoreRow.origin Rows.gaugeMoreRow.targs := of_decide_eq_true (by kernel_rfl)
theorem wrap : Try.f4.isWrapper Try.prog Rows.gaugeMoreRow.wrapper Rows.gaugeMoreRow.mainSum := by unfold Func.isWrapper; first | (rw [if_pos (by decide +kernel)]; kernel_rfl) | (rw [if_neg (by decide +kernel)]; exact ⟨rfl, rfl⟩)
theorem e01 : Rows.gaugeMoreRow.wf (OpenSpec.ofChange Rows.gaugeMoreSpec) = true := by kernel_rfl
theorem e04 : Try.f4.params.all (Try.prog.readableRec ·) = true := by kernel_rfl
theorem e05 : namedTie Try.prog Rows.gaugeMoreRow.named Rows.gaugeMoreSpec.vars = true := by kernel_rfl
theorem e10 : (Rows.gaugeMoreRow.inPlace == Try.prog.inPlace 4) = true := by kernel_rfl
theorem e11 : (Rows.gaugeMoreRow.unfollowed == Try.prog.unfollowed 4) = true := by kernel_rfl
theorem e12 : (Rows.gaugeMoreRow.recurses == Try.prog.recurses 4) = true := by kernel_rfl
theorem e13 : (Rows.gaugeMoreRow.named == Try.prog.varsNamed 4) = true := by kernel_rfl
theorem e14 : (Rows.gaugeMoreRow.maps == (Try.f4.params.toList ++ Rows.gaugeMoreSpec.plain.varTypes Try.prog).any (Try.prog.mapsRec ·)) = true := by kernel_rfl
theorem e15 : (Rows.gaugeMoreRow.ifaces == (Try.f4.params.toList ++ Rows.gaugeMoreSpec.plain.varTypes Try.prog).any (Try.prog.ifacesRec ·)) = true := by kernel_rfl
theorem e16 : (Rows.gaugeMoreRow.mapsOut == Try.prog.mapsAmong Try.f4.resultTypes.toList) = true := by kernel_rfl
theorem e17 : (Rows.gaugeMoreRow.loops == (Try.f4.params.toList ++ Rows.gaugeMoreSpec.plain.varTypes Try.prog).any (Try.prog.loopsFrom ·)) = true := by kernel_rfl
theorem e18 : (Rows.gaugeMoreRow.wideKeys == (Try.f4.params.toList ++ Rows.gaugeMoreSpec.plain.varTypes Try.prog ++ Try.f4.resultTypes.toList).any (Try.prog.wideKeysFrom ·)) = true := by kernel_rfl
theorem e19 : Rows.gaugeMoreSpec.vars.all (Try.prog.varReadable ·) = true := by kernel_rfl
theorem e20 : Try.f4.resultTypes.all (fun t => Try.prog.readableRec t && decide (t < Try.prog.types.size)) = true := by kernel_rfl
theorem e21 : (Rows.gaugeMoreRow.ifacesOut == Try.f4.resultTypes.toList.any (Try.prog.ifacesRec ·)) = true := by kernel_rfl
theorem e22 : (Rows.gaugeMoreRow.loopsOut == Try.f4.resultTypes.toList.any (Try.prog.loopsFrom ·)) = true := by kernel_rfl
theorem e31 : (Rows.gaugeMoreRow.veiled == (Try.f4.params.toList ++ Rows.gaugeMoreSpec.plain.varTypes Try.prog ++ Try.f4.resultTypes.toList).any (Try.prog.veiledRec ·)) = true := by kernel_rfl
theorem e32 : Rows.gaugeMoreRow.veiledFits Try.prog Try.f4.params.toList (Try.f4.params.toList ++ Rows.gaugeMoreSpec.plain.varTypes Try.prog ++ Try.f4.resultTypes.toList) = true := by kernel_rfl
theorem closed : joinedFacts Try.prog 4 Try.f4 Rows.gaugeMoreSpec Rows.gaugeMoreRow = true :=
  Hd.closed_of e01 e04 e05 (by kernel_rfl) (by kernel_rfl) e10 e11 e12 e13 e14 e15 e16 e17 e18 e19 e20 e21 e22 (by kernel_rfl) rfl rfl rfl rfl rfl rfl e31 e32
theorem over : Rows.gaugeMoreRow.holds Try.pinned (OpenSpec.ofChange Rows.gaugeMoreSpec) :=
  OpenClaim.holds_of_wide 4 Try.f4 rfl rfl rfl rfl rfl rfl rfl ⟨rfl, rfl, rfl, rfl, rfl⟩ rfl rfl rfl rfl rfl named Try.func4 closed inst wrap
    (fun os started H enc _ => lifted os started H enc)

theorem proved : Rows.GaugeMoreSaid := over
#print axioms proved
end Go.Proofs.Ytmmcffceeahemaa.gaugeMore
