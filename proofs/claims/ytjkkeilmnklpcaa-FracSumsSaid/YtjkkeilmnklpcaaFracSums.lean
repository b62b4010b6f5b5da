/-
  FracSums: sum, difference, product and quotient of any two fractions, by 0 too, and a fraction on the other side of 0, and without its sign, are as the document has them (of at most 20 words each; longer ones ask the chapter's examples alone); nothing that was there turns.
  Conditions: none.
-/
import Derived.Test.YtjkkeilmnklpcaaHead
import Derived.Test.YtjkkeilmnklpcaaFracOpen
import Derived.Test.YtjkkeilmnklpcaaFracLaws5
namespace Go.Proofs.Ytjkkeilmnklpcaa.fracSums
open Go.ChangeShapes Go.WideShapes Go.ChangeAt Go.RowKit
set_option linter.unusedVariables false

theorem walk {v v' : Value} {W : World} (h : ∃ s u d l m, v = .agg #[.bool s, u, d] ∧ Ws W u l ∧ Ws W d m) (h' : ∃ s u d l m, v' = .agg #[.bool s, u, d] ∧ Ws W u l ∧ Ws W d m) : Calls Try.prog 10 #[v, v'] W fun e w' => e = .returned (.bool true) ∧ Below W.heap.size W w' := by
  obtain ⟨s, u, d, l, m, rfl, hl, hm⟩ := h
  obtain ⟨s', u', d', l', m', rfl, hl', hm'⟩ := h'
  exact fracSums_walk hl hm hl' hm'

open Hd (own laidOut)

set_option maxRecDepth 100000 in
theorem lifted (os : Os) (started : os.Started) (H : Type) (enc : TypeId × Value → H) :
    ReturnsInHanded {} Try.checked os 10 .any (Rows.fracSumsSpec.pre6 enc Try.prog Try.f10 Rows.fracSumsRow.domain false) (Rows.fracSumsSpec.post enc Try.prog Try.f10 false true false false) := by
  refine returnsInHanded_of_change (C := Try.checked) own started (by kernel_rfl) Try.func10
    (ChangeSpec.witness6 (enc := enc) (C := Try.checked) false ⟨#[], #[.agg #[.bool false, .slice none 0 0, .slice none 0 0], .agg #[.bool false, .slice none 0 0, .slice none 0 0]], []⟩ 8 (by kernel_rfl) (by kernel_rfl) (by kernel_rfl) (by kernel_rfl)) ?_
  intro W base args ds gs before hval0 hW hcnd _
  have hval : ∀ (j : Nat) t v, Try.f10.params[j]? = some t → args[j]? = some v → Value.okWide Try.prog W .any base t v := hval0
  have hW' := hW
  obtain ⟨p, q, hA0, hV, rfl, hfz, hnd⟩ := hW
  have hA : DataW.TrodAll enc Try.prog W 0 (fun _ => true) true Try.f10.params.toList args.toList ds p := hA0
  rw [Try.params10] at hA hval
  obtain ⟨v0, vs0, d0, ds0, p0, q0, hargs, rfl, rfl, h0, r0⟩ := trodAll_cons hA
  obtain ⟨v1, vs1, d1, ds1, p1, q1, rfl, rfl, rfl, h1, r1⟩ := trodAll_cons r0
  obtain ⟨rfl, rfl, rfl⟩ := trodAll_nil r1
  obtain rfl : args = #[v0, v1] := by cases args; simp_all
  obtain ⟨rfl, rfl⟩ := trodVars_none hV
  have k0 := h0
  have lt0 : ∀ x ∈ p0, x.block < W.heap.size := by obtain ⟨m, hm⟩ := k0; exact DataW.trod_lt m _ _ _ hm
  have k1 := h1
  have lt1 : ∀ x ∈ p1, x.block < W.heap.size := by obtain ⟨m, hm⟩ := k1; exact DataW.trod_lt m _ _ _ hm
  have s0 := open_frac (hval 0 61 v0 rfl rfl) h0
  have s1 := open_frac (hval 1 61 v1 rfl rfl) h1
  clear hA0 hval0
  refine (walk s0 s1).mono fun e W' ⟨he, bel⟩ => ?_
  subst he
  exact ⟨_, rfl, _, _, _, [], _, [], hW', trodAll_mk1 (shut_bool Try.underlying4 _), (trodAll_cons_mk (Below.trod laidOut (by kernel_rfl) (of_decide_eq_true (by kernel_rfl)) k0 bel lt0) (trodAll_cons_mk (Below.trod laidOut (by kernel_rfl) (of_decide_eq_true (by kernel_rfl)) k1 bel lt1) trodAll_mk0)), rfl, bel.frame _, fun h => by cases h⟩

theorem named : Try.prog.funcNamed Rows.fracSumsRow.func = some 10 := by kernel_rfl
theorem inst : Try.f10.isInstance Try.prog Rows.fracSumsRow.origin Rows.fracSumsRow.targs := of_decide_eq_true (by kernel_rfl)
theorem wrap : Try.f10.isWrapper Try.prog Rows.fracSumsRow.wrapper Rows.fracSumsRow.mainSum := by unfold Func.isWrapper; first | (rw [if_pos (by decide +kernel)]; kernel_rfl) | (rw [if_neg (by decide +kernel)]; exact ⟨rfl, rfl⟩)
theorem e01 : Rows.fracSumsRow.wf (OpenSpec.ofChange Rows.fracSumsSpec) = true := by kernel_rfl
theorem e04 : Try.f10.params.all (Try.prog.readableRec ·) = true := by kernel_rfl
theorem e05 : namedTie Try.prog Rows.fracSumsRow.named Rows.fracSumsSpec.vars = true := by kernel_rfl
theorem e10 : (Rows.fracSumsRow.inPlace == Try.prog.inPlace 10) = true := by kernel_rfl
theorem e11 : (Rows.fracSumsRow.unfollowed == Try.prog.unfollowed 10) = true := by kernel_rfl
theorem e12 : (Rows.fracSumsRow.recurses == Try.prog.recurses 10) = true := by kernel_rfl
theorem e13 : (Rows.fracSumsRow.named == Try.prog.varsNamed 10) = true := by kernel_rfl
theorem e14 : (Rows.fracSumsRow.maps == (Try.f10.params.toList ++ Rows.fracSumsSpec.plain.varTypes Try.prog).any (Try.prog.mapsRec ·)) = true := by kernel_rfl
theorem e15 : (Rows.fracSumsRow.ifaces == (Try.f10.params.toList ++ Rows.fracSumsSpec.plain.varTypes Try.prog).any (Try.prog.ifacesRec ·)) = true := by kernel_rfl
theorem e16 : (Rows.fracSumsRow.mapsOut == Try.prog.mapsAmong Try.f10.resultTypes.toList) = true := by kernel_rfl
theorem e17 : (Rows.fracSumsRow.loops == (Try.f10.params.toList ++ Rows.fracSumsSpec.plain.varTypes Try.prog).any (Try.prog.loopsFrom ·)) = true := by kernel_rfl
theorem e18 : (Rows.fracSumsRow.wideKeys == (Try.f10.params.toList ++ Rows.fracSumsSpec.plain.varTypes Try.prog ++ Try.f10.resultTypes.toList).any (Try.prog.wideKeysFrom ·)) = true := by kernel_rfl
theorem e19 : Rows.fracSumsSpec.vars.all (Try.prog.varReadable ·) = true := by kernel_rfl
theorem e20 : Try.f10.resultTypes.all (fun t => Try.prog.readableRec t && decide (t < Try.prog.types.size)) = true := by kernel_rfl
theorem e21 : (Rows.fracSumsRow.ifacesOut == Try.f10.resultTypes.toList.any (Try.prog.ifacesRec ·)) = true := by kernel_rfl
theorem e22 : (Rows.fracSumsRow.loopsOut == Try.f10.resultTypes.toList.any (Try.prog.loopsFrom ·)) = true := by kernel_rfl
theorem e31 : (Rows.fracSumsRow.veiled == (Try.f10.params.toList ++ Rows.fracSumsSpec.plain.varTypes Try.prog ++ Try.f10.resultTypes.toList).any (Try.prog.veiledRec ·)) = true := by kernel_rfl
theorem e32 : Rows.fracSumsRow.veiledFits Try.prog Try.f10.params.toList (Try.f10.params.toList ++ Rows.fracSumsSpec.plain.varTypes Try.prog ++ Try.f10.resultTypes.toList) = true := by kernel_rfl
theorem closed : joinedFacts Try.prog 10 Try.f10 Rows.fracSumsSpec Rows.fracSumsRow = true :=
  Hd.closed_of e01 e04 e05 (by kernel_rfl) (by kernel_rfl) e10 e11 e12 e13 e14 e15 e16 e17 e18 e19 e20 e21 e22 (by kernel_rfl) rfl rfl rfl rfl rfl rfl e31 e32
theorem over : Rows.fracSumsRow.holds Try.pinned (OpenSpec.ofChange Rows.fracSumsSpec) :=
  OpenClaim.holds_of_wide 10 Try.f10 rfl rfl rfl rfl rfl rfl rfl ⟨rfl, rfl, rfl, rfl, rfl⟩ rfl rfl rfl rfl rfl named Try.func10 closed inst wrap
    (fun os started H enc _ => lifted os started H enc)

theorem proved : Rows.FracSumsSaid := over
#print axioms proved
end Go.Proofs.Ytjkkeilmnklpcaa.fracSums
