/-
  GaugePlays: whatever is shown to a gauge, one by one and in rows, what is answered and counted is as the document has it (of at most 20 rows of at most 20 fractions of at most 200 words; other rows ask the chapter's example alone); nothing that was there turns.
  Conditions: none.
-/
import Derived.Test.YtmmcffceeahemaaHead
import Derived.Test.YtmmcffceeahemaaGaugePlaysW
namespace Go.Proofs.Ytmmcffceeahemaa.gaugePlays
open Go.ChangeShapes Go.WideShapes Go.ChangeAt Go.RowKit
set_option linter.unusedVariables false

theorem walk {v : Value} {W : World} (a : Int) (wa : (Lit.int .i64 a).wf = true) (h : ∃ ls, Sqs Rw W v ls) : Calls Try.prog 5 #[.int .i64 a, v] W fun e w' => e = .returned (.bool true) ∧ Below W.heap.size W w' := by
  obtain ⟨ls, h⟩ := h
  exact gaugePlays_walk h (bounds_i64 wa)

open Hd (own laidOut)

set_option maxRecDepth 100000 in
theorem lifted (os : Os) (started : os.Started) (H : Type) (enc : TypeId × Value → H) :
    ReturnsInHanded {} Try.checked os 5 .any (Rows.gaugePlaysSpec.pre6 enc Try.prog Try.f5 Rows.gaugePlaysRow.domain false) (Rows.gaugePlaysSpec.post enc Try.prog Try.f5 false true false false) := by
  refine returnsInHanded_of_change (C := Try.checked) own started (by kernel_rfl) Try.func5
    (ChangeSpec.witness6 (enc := enc) (C := Try.checked) false ⟨#[], #[.int .i64 0, .slice none 0 0], []⟩ 8 (by kernel_rfl) (by kernel_rfl) (by kernel_rfl) (by kernel_rfl)) ?_
  intro W base args ds gs before hval0 hW hcnd _
  have hval : ∀ (j : Nat) t v, Try.f5.params[j]? = some t → args[j]? = some v → Value.okWide Try.prog W .any base t v := hval0
  have hW' := hW
  obtain ⟨p, q, hA0, hV, rfl, hfz, hnd⟩ := hW
  have hA : DataW.TrodAll enc Try.prog W 0 (fun _ => true) true Try.f5.params.toList args.toList ds p := hA0
  rw [Try.params5] at hA hval
  obtain ⟨v0, vs0, d0, ds0, p0, q0, hargs, rfl, rfl, h0, r0⟩ := trodAll_cons hA
  obtain ⟨v1, vs1, d1, ds1, p1, q1, rfl, rfl, rfl, h1, r1⟩ := trodAll_cons r0
  obtain ⟨rfl, rfl, rfl⟩ := trodAll_nil r1
  obtain rfl : args = #[v0, v1] := by cases args; simp_all
  obtain ⟨rfl, rfl⟩ := trodVars_none hV
  have k0 := h0
  have lt0 : ∀ x ∈ p0, x.block < W.heap.size := by obtain ⟨m, hm⟩ := k0; exact DataW.trod_lt m _ _ _ hm
  have k1 := h1
  have lt1 : ∀ x ∈ p1, x.block < W.heap.size := by obtain ⟨m, hm⟩ := k1; exact DataW.trod_lt m _ _ _ hm
  obtain ⟨a0, rfl, rfl, rfl, w0⟩ := open_int Try.underlying3 (hval 0 3 v0 rfl rfl) h0
  have s1 := open_fracss (hval 1 55 v1 rfl rfl) h1
  clear hA0 hval0
  refine (walk a0 w0 s1).mono fun e W' ⟨he, bel⟩ => ?_
  subst he
  exact ⟨_, rfl, _, _, _, [], _, [], hW', trodAll_mk1 (shut_bool Try.underlying4 _), (trodAll_cons_mk (Below.trod laidOut (by kernel_rfl) (of_decide_eq_true (by kernel_rfl)) k0 bel lt0) (trodAll_cons_mk (Below.trod laidOut (by kernel_rfl) (of_decide_eq_true (by kernel_rfl)) k1 bel lt1) trodAll_mk0)), rfl, bel.frame _, fun h => by cases h⟩

theorem named : Try.prog.funcNamed Rows.gaugePlaysRow.func = some 5 := by kernel_rfl
theorem inst : Try.f5.isInstance Try.prog Rows.gaugePlaysRow.origin Rows.gaugePlaysRow.targs := of_decide_eq_true (by kernel_rfl)
theorem wrap : Try.f5.isWrapper Try.prog Rows.gaugePlaysRow.wrapper Rows.gaugePlaysRow.mainSum := by unfold Func.isWrapper; first | (rw [if_pos (by decide +kernel)]; kernel_rfl) | (rw [if_neg (by decide +kernel)]; exact ⟨rfl, rfl⟩)
theorem e01 : Rows.gaugePlaysRow.wf (OpenSpec.ofChange Rows.gaugePlaysSpec) = true := by kernel_rfl
theorem e04 : Try.f5.params.all (Try.prog.readableRec ·) = true := by kernel_rfl
theorem e05 : namedTie Try.prog Rows.gaugePlaysRow.named Rows.gaugePlaysSpec.vars = true := by kernel_rfl
theorem e10 : (Rows.gaugePlaysRow.inPlace == Try.prog.inPlace 5) = true := by kernel_rfl
theorem e11 : (Rows.gaugePlaysRow.unfollowed == Try.prog.unfollowed 5) = true := by kernel_rfl
theorem e12 : (Rows.gaugePlaysRow.recurses == Try.prog.recurses 5) = true := by kernel_rfl
theorem e13 : (Rows.gaugePlaysRow.named == Try.prog.varsNamed 5) = true := by kernel_rfl
theorem e14 : (Rows.gaugePlaysRow.maps == (Try.f5.params.toList ++ Rows.gaugePlaysSpec.plain.varTypes Try.prog).any (Try.prog.mapsRec ·)) = true := by kernel_rfl
theorem e15 : (Rows.gaugePlaysRow.ifaces == (Try.f5.params.toList ++ Rows.gaugePlaysSpec.plain.varTypes Try.prog).any (Try.prog.ifacesRec ·)) = true := by kernel_rfl
theorem e16 : (Rows.gaugePlaysRow.mapsOut == Try.prog.mapsAmong Try.f5.resultTypes.toList) = true := by kernel_rfl
theorem e17 : (Rows.gaugePlaysRow.loops == (Try.f5.params.toList ++ Rows.gaugePlaysSpec.plain.varTypes Try.prog).any (Try.prog.loopsFrom ·)) = true := by kernel_rfl
theorem e18 : (Rows.gaugePlaysRow.wideKeys == (Try.f5.params.toList ++ Rows.gaugePlaysSpec.plain.varTypes Try.prog ++ Try.f5.resultTypes.toList).any (Try.prog.wideKeysFrom ·)) = true := by kernel_rfl
theorem e19 : Rows.gaugePlaysSpec.vars.all (Try.prog.varReadable ·) = true := by kernel_rfl
theorem e20 : Try.f5.resultTypes.all (fun t => Try.prog.readableRec t && decide (t < Try.prog.types.size)) = true := by kernel_rfl
theorem e21 : (Rows.gaugePlaysRow.ifacesOut == Try.f5.resultTypes.toList.any (Try.prog.ifacesRec ·)) = true := by kernel_rfl
theorem e22 : (Rows.gaugePlaysRow.loopsOut == Try.f5.resultTypes.toList.any (Try.prog.loopsFrom ·)) = true := by kernel_rfl
theorem e31 : (Rows.gaugePlaysRow.veiled == (Try.f5.params.toList ++ Rows.gaugePlaysSpec.plain.varTypes Try.prog ++ Try.f5.resultTypes.toList).any (Try.prog.veiledRec ·)) = true := by kernel_rfl
theorem e32 : Rows.gaugePlaysRow.veiledFits Try.prog Try.f5.params.toList (Try.f5.params.toList ++ Rows.gaugePlaysSpec.plain.varTypes Try.prog ++ Try.f5.resultTypes.toList) = true := by kernel_rfl
theorem closed : joinedFacts Try.prog 5 Try.f5 Rows.gaugePlaysSpec Rows.gaugePlaysRow = true :=
  Hd.closed_of e01 e04 e05 (by kernel_rfl) (by kernel_rfl) e10 e11 e12 e13 e14 e15 e16 e17 e18 e19 e20 e21 e22 (by kernel_rfl) rfl rfl rfl rfl rfl rfl e31 e32
theorem over : Rows.gaugePlaysRow.holds Try.pinned (OpenSpec.ofChange Rows.gaugePlaysSpec) :=
  OpenClaim.holds_of_wide 5 Try.f5 rfl rfl rfl rfl rfl rfl rfl ⟨rfl, rfl, rfl, rfl, rfl⟩ rfl rfl rfl rfl rfl named Try.func5 closed inst wrap
    (fun os started H enc _ => lifted os started H enc)

theorem proved : Rows.GaugePlaysSaid := over
#print axioms proved
end Go.Proofs.Ytmmcffceeahemaa.gaugePlays
