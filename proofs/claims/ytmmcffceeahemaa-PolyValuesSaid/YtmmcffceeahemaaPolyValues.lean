/-
  PolyValues: the values of sums and products are sums and products of values; the derivative of a product is that of the first times the second, and the first times that of the second (of at most 6 coefficients of at most 2 words each; longer ones ask the chapter's examples alone); nothing that was there turns.
  Conditions: none.
-/
import Derived.Test.YtmmcffceeahemaaHead
import Derived.Test.YtmmcffceeahemaaPolyValuesW
namespace Go.Proofs.Ytmmcffceeahemaa.polyValues
open Go.ChangeShapes Go.WideShapes Go.ChangeAt Go.RowKit
set_option linter.unusedVariables false

theorem walk {v u x : Value} {W : World} (h : ∃ rs, Sq Rw W v rs) (h' : ∃ rs, Sq Rw W u rs) (h'' : ∃ s u d l m, x = .agg #[.bool s, u, d] ∧ Ws W u l ∧ Ws W d m) : Calls Try.prog 9 #[v, u, x] W fun e w' => e = .returned (.bool true) ∧ Below W.heap.size W w' := by
  obtain ⟨rs, h⟩ := h
  obtain ⟨ts, h'⟩ := h'
  obtain ⟨s, u, d, l, m, rfl, hl, hm⟩ := h''
  exact polyValues_walk h h' hl hm

open Hd (own laidOut)

set_option maxRecDepth 100000 in
theorem lifted (os : Os) (started : os.Started) (H : Type) (enc : TypeId × Value → H) :
    ReturnsInHanded {} Try.checked os 9 .any (Rows.polyValuesSpec.pre6 enc Try.prog Try.f9 Rows.polyValuesRow.domain false) (Rows.polyValuesSpec.post enc Try.prog Try.f9 false true false false) := by
  refine returnsInHanded_of_change (C := Try.checked) own started (by kernel_rfl) Try.func9
    (ChangeSpec.witness6 (enc := enc) (C := Try.checked) false ⟨#[], #[.slice none 0 0, .slice none 0 0, .agg #[.bool false, .slice none 0 0, .slice none 0 0]], []⟩ 8 (by kernel_rfl) (by kernel_rfl) (by kernel_rfl) (by kernel_rfl)) ?_
  intro W base args ds gs before hval0 hW hcnd _
  have hval : ∀ (j : Nat) t v, Try.f9.params[j]? = some t → args[j]? = some v → Value.okWide Try.prog W .any base t v := hval0
  have hW' := hW
  obtain ⟨p, q, hA0, hV, rfl, hfz, hnd⟩ := hW
  have hA : DataW.TrodAll enc Try.prog W 0 (fun _ => true) true Try.f9.params.toList args.toList ds p := hA0
  rw [Try.params9] at hA hval
  obtain ⟨v0, vs0, d0, ds0, p0, q0, hargs, rfl, rfl, h0, r0⟩ := trodAll_cons hA
  obtain ⟨v1, vs1, d1, ds1, p1, q1, rfl, rfl, rfl, h1, r1⟩ := trodAll_cons r0
  obtain ⟨v2, vs2, d2, ds2, p2, q2, rfl, rfl, rfl, h2, r2⟩ := trodAll_cons r1
  obtain ⟨rfl, rfl, rfl⟩ := trodAll_nil r2
  obtain rfl : args = #[v0, v1, v2] := by cases args; simp_all
  obtain ⟨rfl, rfl⟩ := trodVars_none hV
  have k0 := h0
  have lt0 : ∀ x ∈ p0, x.block < W.heap.size := by obtain ⟨m, hm⟩ := k0; exact DataW.trod_lt m _ _ _ hm
  have k1 := h1
  have lt1 : ∀ x ∈ p1, x.block < W.heap.size := by obtain ⟨m, hm⟩ := k1; exact DataW.trod_lt m _ _ _ hm
  have k2 := h2
  have lt2 : ∀ x ∈ p2, x.block < W.heap.size := by obtain ⟨m, hm⟩ := k2; exact DataW.trod_lt m _ _ _ hm
  have s0 := open_fracs (hval 0 43 v0 rfl rfl) h0
  have s1 := open_fracs (hval 1 43 v1 rfl rfl) h1
  have s2 := open_frac (hval 2 61 v2 rfl rfl) h2
  clear hA0 hval0
  refine (walk s0 s1 s2).mono fun e W' ⟨he, bel⟩ => ?_
  subst he
  exact ⟨_, rfl, _, _, _, [], _, [], hW', trodAll_mk1 (shut_bool Try.underlying4 _), (trodAll_cons_mk (Below.trod laidOut (by kernel_rfl) (of_decide_eq_true (by kernel_rfl)) k0 bel lt0) (trodAll_cons_mk (Below.trod laidOut (by kernel_rfl) (of_decide_eq_true (by kernel_rfl)) k1 bel lt1) (trodAll_cons_mk (Below.trod laidOut (by kernel_rfl) (of_decide_eq_true (by kernel_rfl)) k2 bel lt2) trodAll_mk0))), rfl, bel.frame _, fun h => by cases h⟩

theorem named : Try.prog.funcNamed Rows.polyValuesRow.func = some 9 := by kernel_rfl
theorem inst : Try.f9.isInstance Try.prog Rows.polyValuesRow.origin Rows.polyValuesRow.targs := of_decide_eq_true (by kernel_rfl)
theorem wrap : Try.f9.isWrapper Try.prog Rows.polyValuesRow.wrapper Rows.polyValuesRow.mainSum := by unfold Func.isWrapper; first | (rw [if_pos (by decide +kernel)]; kernel_rfl) | (rw [if_neg (by decide +kernel)]; exact ⟨rfl, rfl⟩)
theorem e01 : Rows.polyValuesRow.wf (OpenSpec.ofChange Rows.polyValuesSpec) = true := by kernel_rfl
theorem e04 : Try.f9.params.all (Try.prog.readableRec ·) = true := by kernel_rfl
theorem e05 : namedTie Try.prog Rows.polyValuesRow.named Rows.polyValuesSpec.vars = true := by kernel_rfl
theorem e10 : (Rows.polyValuesRow.inPlace == Try.prog.inPlace 9) = true := by kernel_rfl
theorem e11 : (Rows.polyValuesRow.unfollowed == Try.prog.unfollowed 9) = true := by kernel_rfl
theorem e12 : (Rows.polyValuesRow.recurses == Try.prog.recurses 9) = true := by kernel_rfl
theorem e13 : (Rows.polyValuesRow.named == Try.prog.varsNamed 9) = true := by kernel_rfl
theorem e14 : (Rows.polyValuesRow.maps == (Try.f9.params.toList ++ Rows.polyValuesSpec.plain.varTypes Try.prog).any (Try.prog.mapsRec ·)) = true := by kernel_rfl
theorem e15 : (Rows.polyValuesRow.ifaces == (Try.f9.params.toList ++ Rows.polyValuesSpec.plain.varTypes Try.prog).any (Try.prog.ifacesRec ·)) = true := by kernel_rfl
theorem e16 : (Rows.polyValuesRow.mapsOut == Try.prog.mapsAmong Try.f9.resultTypes.toList) = true := by kernel_rfl
theorem e17 : (Rows.polyValuesRow.loops == (Try.f9.params.toList ++ Rows.polyValuesSpec.plain.varTypes Try.prog).any (Try.prog.loopsFrom ·)) = true := by kernel_rfl
theorem e18 : (Rows.polyValuesRow.wideKeys == (Try.f9.params.toList ++ Rows.polyValuesSpec.plain.varTypes Try.prog ++ Try.f9.resultTypes.toList).any (Try.prog.wideKeysFrom ·)) = true := by kernel_rfl
theorem e19 : Rows.polyValuesSpec.vars.all (Try.prog.varReadable ·) = true := by kernel_rfl
theorem e20 : Try.f9.resultTypes.all (fun t => Try.prog.readableRec t && decide (t < Try.prog.types.size)) = true := by kernel_rfl
theorem e21 : (Rows.polyValuesRow.ifacesOut == Try.f9.resultTypes.toList.any (Try.prog.ifacesRec ·)) = true := by kernel_rfl
theorem e22 : (Rows.polyValuesRow.loopsOut == Try.f9.resultTypes.toList.any (Try.prog.loopsFrom ·)) = true := by kernel_rfl
theorem e31 : (Rows.polyValuesRow.veiled == (Try.f9.params.toList ++ Rows.polyValuesSpec.plain.varTypes Try.prog ++ Try.f9.resultTypes.toList).any (Try.prog.veiledRec ·)) = true := by kernel_rfl
theorem e32 : Rows.polyValuesRow.veiledFits Try.prog Try.f9.params.toList (Try.f9.params.toList ++ Rows.polyValuesSpec.plain.varTypes Try.prog ++ Try.f9.resultTypes.toList) = true := by kernel_rfl
theorem closed : joinedFacts Try.prog 9 Try.f9 Rows.polyValuesSpec Rows.polyValuesRow = true :=
  Hd.closed_of e01 e04 e05 (by kernel_rfl) (by kernel_rfl) e10 e11 e12 e13 e14 e15 e16 e17 e18 e19 e20 e21 e22 (by kernel_rfl) rfl rfl rfl rfl rfl rfl e31 e32
theorem over : Rows.polyValuesRow.holds Try.pinned (OpenSpec.ofChange Rows.polyValuesSpec) :=
  OpenClaim.holds_of_wide 9 Try.f9 rfl rfl rfl rfl rfl rfl rfl ⟨rfl, rfl, rfl, rfl, rfl⟩ rfl rfl rfl rfl rfl named Try.func9 closed inst wrap
    (fun os started H enc _ => lifted os started H enc)

theorem proved : Rows.PolyValuesSaid := over
#print axioms proved
end Go.Proofs.Ytmmcffceeahemaa.polyValues
