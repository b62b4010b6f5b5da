/-
  TwosBack: what is shifted up is shifted down again, and has as many bits more; a number is what is left of it when it is shifted down, shifted up, and its low bits (of at most 60 words, shifted by at most 4000; others ask the chapter's examples alone); nothing that was there turns.
  Conditions: none.
-/
import Derived.Test.YtelgenhmmfkmhaaHead
import Derived.Test.YtelgenhmmfkmhaaOpen
import Derived.Test.YtelgenhmmfkmhaaTwosBackW
namespace Go.Proofs.Ytelgenhmmfkmhaa.twosBack
open Go.ChangeShapes Go.WideShapes Go.ChangeAt Go.RowKit
set_option linter.unusedVariables false

theorem walk {v : Value} {W : World} (ha : ∃ l, Ws W v l) (n : Int) (hn : (Lit.int .i64 n).wf = true) : Calls Try.prog 23 #[v, .int .i64 n] W fun e w' => e = .returned (.bool true) ∧ Below W.heap.size W w' := by
  obtain ⟨a, ha⟩ := ha
  have := bounds_i64 hn
  exact twosBack_walk (by omega) ha

open Hd (own laidOut)

set_option maxRecDepth 100000 in
theorem lifted (os : Os) (started : os.Started) (H : Type) (enc : TypeId × Value → H) :
    ReturnsInHanded {} Try.checked os 23 .any (Rows.twosBackSpec.pre6 enc Try.prog Try.f23 Rows.twosBackRow.domain false) (Rows.twosBackSpec.post enc Try.prog Try.f23 false true false false) := by
  refine returnsInHanded_of_change (C := Try.checked) own started (by kernel_rfl) Try.func23
    (ChangeSpec.witness6 (enc := enc) (C := Try.checked) false ⟨#[], #[.slice none 0 0, .int .i64 0], []⟩ 8 (by kernel_rfl) (by kernel_rfl) (by kernel_rfl) (by kernel_rfl)) ?_
  intro W base args ds gs before hval0 hW hcnd _
  have hval : ∀ (j : Nat) t v, Try.f23.params[j]? = some t → args[j]? = some v → Value.okWide Try.prog W .any base t v := hval0
  have hW' := hW
  obtain ⟨p, q, hA0, hV, rfl, hfz, hnd⟩ := hW
  have hA : DataW.TrodAll enc Try.prog W 0 (fun _ => true) true Try.f23.params.toList args.toList ds p := hA0
  rw [Try.params23] at hA hval
  obtain ⟨v0, vs0, d0, ds0, p0, q0, hargs, rfl, rfl, h0, r0⟩ := trodAll_cons hA
  obtain ⟨v1, vs1, d1, ds1, p1, q1, rfl, rfl, rfl, h1, r1⟩ := trodAll_cons r0
  obtain ⟨rfl, rfl, rfl⟩ := trodAll_nil r1
  obtain rfl : args = #[v0, v1] := by cases args; simp_all
  obtain ⟨rfl, rfl⟩ := trodVars_none hV
  have k0 := h0
  have lt0 : ∀ x ∈ p0, x.block < W.heap.size := by obtain ⟨m, hm⟩ := k0; exact DataW.trod_lt m _ _ _ hm
  have k1 := h1
  have lt1 : ∀ x ∈ p1, x.block < W.heap.size := by obtain ⟨m, hm⟩ := k1; exact DataW.trod_lt m _ _ _ hm
  have s0 := open_words (hval 0 53 v0 rfl rfl) h0
  obtain ⟨a1, rfl, rfl, rfl, w1⟩ := open_int Try.underlying3 (hval 1 3 v1 rfl rfl) h1
  clear hA0 hval0
  refine (walk s0 a1 w1).mono fun e W' ⟨he, bel⟩ => ?_
  subst he
  exact ⟨_, rfl, _, _, _, [], _, [], hW', trodAll_mk1 (shut_bool Try.underlying4 _), (trodAll_cons_mk (Below.trod laidOut (by kernel_rfl) (of_decide_eq_true (by kernel_rfl)) k0 bel lt0) (trodAll_cons_mk (Below.trod laidOut (by kernel_rfl) (of_decide_eq_true (by kernel_rfl)) k1 bel lt1) trodAll_mk0)), rfl, bel.frame _, fun h => by cases h⟩

theorem named : Try.prog.funcNamed Rows.twosBackRow.func = some 23 := by kernel_rfl
theorem inst : Try.f23.isInstance Try.prog Rows.twosBackRow.origin Rows.twosBackRow.targs := of_decide_eq_true (by kernel_rfl)
theorem wrap : Try.f23.isWrapper Try.prog Rows.twosBackRow.wrapper Rows.twosBackRow.mainSum := by unfold Func.isWrapper; first | (rw [if_pos (by decide +kernel)]; kernel_rfl) | (rw [if_neg (by decide +kernel)]; exact ⟨rfl, rfl⟩)
theorem e01 : Rows.twosBackRow.wf (OpenSpec.ofChange Rows.twosBackSpec) = true := by kernel_rfl
theorem e04 : Try.f23.params.all (Try.prog.readableRec ·) = true := by kernel_rfl
theorem e05 : namedTie Try.prog Rows.twosBackRow.named Rows.twosBackSpec.vars = true := by kernel_rfl
theorem e10 : (Rows.twosBackRow.inPlace == Try.prog.inPlace 23) = true := by kernel_rfl
theorem e11 : (Rows.twosBackRow.unfollowed == Try.prog.unfollowed 23) = true := by kernel_rfl
theorem e12 : (Rows.twosBackRow.recurses == Try.prog.recurses 23) = true := by kernel_rfl
theorem e13 : (Rows.twosBackRow.named == Try.prog.varsNamed 23) = true := by kernel_rfl
theorem e14 : (Rows.twosBackRow.maps == (Try.f23.params.toList ++ Rows.twosBackSpec.plain.varTypes Try.prog).any (Try.prog.mapsRec ·)) = true := by kernel_rfl
theorem e15 : (Rows.twosBackRow.ifaces == (Try.f23.params.toList ++ Rows.twosBackSpec.plain.varTypes Try.prog).any (Try.prog.ifacesRec ·)) = true := by kernel_rfl
theorem e16 : (Rows.twosBackRow.mapsOut == Try.prog.mapsAmong Try.f23.resultTypes.toList) = true := by kernel_rfl
theorem e17 : (Rows.twosBackRow.loops == (Try.f23.params.toList ++ Rows.twosBackSpec.plain.varTypes Try.prog).any (Try.prog.loopsFrom ·)) = true := by kernel_rfl
theorem e18 : (Rows.twosBackRow.wideKeys == (Try.f23.params.toList ++ Rows.twosBackSpec.plain.varTypes Try.prog ++ Try.f23.resultTypes.toList).any (Try.prog.wideKeysFrom ·)) = true := by kernel_rfl
theorem e19 : Rows.twosBackSpec.vars.all (Try.prog.varReadable ·) = true := by kernel_rfl
theorem e20 : Try.f23.resultTypes.all (fun t => Try.prog.readableRec t && decide (t < Try.prog.types.size)) = true := by kernel_rfl
theorem e21 : (Rows.twosBackRow.ifacesOut == Try.f23.resultTypes.toList.any (Try.prog.ifacesRec ·)) = true := by kernel_rfl
theorem e22 : (Rows.twosBackRow.loopsOut == Try.f23.resultTypes.toList.any (Try.prog.loopsFrom ·)) = true := by kernel_rfl
theorem e31 : (Rows.twosBackRow.veiled == (Try.f23.params.toList ++ Rows.twosBackSpec.plain.varTypes Try.prog ++ Try.f23.resultTypes.toList).any (Try.prog.veiledRec ·)) = true := by kernel_rfl
theorem e32 : Rows.twosBackRow.veiledFits Try.prog Try.f23.params.toList (Try.f23.params.toList ++ Rows.twosBackSpec.plain.varTypes Try.prog ++ Try.f23.resultTypes.toList) = true := by kernel_rfl
theorem closed : joinedFacts Try.prog 23 Try.f23 Rows.twosBackSpec Rows.twosBackRow = true :=
  Hd.closed_of e01 e04 e05 (by kernel_rfl) (by kernel_rfl) e10 e11 e12 e13 e14 e15 e16 e17 e18 e19 e20 e21 e22 (by kernel_rfl) rfl rfl rfl rfl rfl rfl e31 e32
theorem over : Rows.twosBackRow.holds Try.pinned (OpenSpec.ofChange Rows.twosBackSpec) :=
  OpenClaim.holds_of_wide 23 Try.f23 rfl rfl rfl rfl rfl rfl rfl ⟨rfl, rfl, rfl, rfl, rfl⟩ rfl rfl rfl rfl rfl named Try.func23 closed inst wrap
    (fun os started H enc _ => lifted os started H enc)

theorem proved : Rows.TwosBackSaid := over
#print axioms proved
end Go.Proofs.Ytelgenhmmfkmhaa.twosBack
