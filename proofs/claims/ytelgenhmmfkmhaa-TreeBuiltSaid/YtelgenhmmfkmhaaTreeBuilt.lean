/-
  TreeBuilt: two expressions one behind the other are none; with an operation of two behind they are one, and they are its operands; one with an operation of one behind is one, and it is its operand (of at most 50 nodes with numbers of at most 10 words each; longer ones, and what is no expression, ask the chapter's example alone); nothing that was there turns.
  Conditions: none.
-/
import Derived.Test.YtelgenhmmfkmhaaHead
import Derived.Test.YtelgenhmmfkmhaaTreeOpen
import Derived.Test.YtelgenhmmfkmhaaTreeLaws3
namespace Go.Proofs.Ytelgenhmmfkmhaa.treeBuilt
open Go.ChangeShapes Go.WideShapes Go.ChangeAt Go.RowKit
set_option linter.unusedVariables false

theorem walk {v u : Value} {W : World} (ha : ∃ l, Nds W v l) (hb : ∃ l, Nds W u l) (x : Int) (hx : (Lit.int .i64 x).wf = true) : Calls Try.prog 14 #[v, u, .int .i64 x] W fun e w' => e = .returned (.bool true) ∧ Below W.heap.size W w' := by
  obtain ⟨l, ha⟩ := ha
  obtain ⟨m, hb⟩ := hb
  exact treeBuilt_walk ha hb (bounds_i64 hx)

open Hd (own laidOut)

set_option maxRecDepth 100000 in
theorem lifted (os : Os) (started : os.Started) (H : Type) (enc : TypeId × Value → H) :
    ReturnsInHanded {} Try.checked os 14 .any (Rows.treeBuiltSpec.pre6 enc Try.prog Try.f14 Rows.treeBuiltRow.domain false) (Rows.treeBuiltSpec.post enc Try.prog Try.f14 false true false false) := by
  refine returnsInHanded_of_change (C := Try.checked) own started (by kernel_rfl) Try.func14
    (ChangeSpec.witness6 (enc := enc) (C := Try.checked) false ⟨#[], #[.slice none 0 0, .slice none 0 0, .int .i64 0], []⟩ 8 (by kernel_rfl) (by kernel_rfl) (by kernel_rfl) (by kernel_rfl)) ?_
  intro W base args ds gs before hval0 hW hcnd _
  have hval : ∀ (j : Nat) t v, Try.f14.params[j]? = some t → args[j]? = some v → Value.okWide Try.prog W .any base t v := hval0
  have hW' := hW
  obtain ⟨p, q, hA0, hV, rfl, hfz, hnd⟩ := hW
  have hA : DataW.TrodAll enc Try.prog W 0 (fun _ => true) true Try.f14.params.toList args.toList ds p := hA0
  rw [Try.params14] at hA hval
  obtain ⟨v0, vs0, d0, ds0, p0, q0, hargs, rfl, rfl, h0, r0⟩ := trodAll_cons hA
  obtain ⟨v1, vs1, d1, ds1, p1, q1, rfl, rfl, rfl, h1, r1⟩ := trodAll_cons r0
  obtain ⟨v2, vs2, d2, ds2, p2, q2, rfl, rfl, rfl, h2, r2⟩ := trodAll_cons r1
  obtain ⟨rfl, rfl, rfl⟩ := trodAll_nil r2
  obtain rfl : args = #[v0, v1, v2] := by cases args; simp_all
  obtain ⟨rfl, rfl⟩ := trodVars_none hV
  have k0 := h0
  have lt0 : ∀ x ∈ p0, x.block < W.heap.size := by obtain ⟨m, hm⟩ := k0; exact DataW.trod_lt m _ _ _ hm
  have k1 := h1
  have lt1 : ∀ x ∈ p1, x.block < W.heap.size := by obtain ⟨m, hm⟩ := k1; exact DataW.trod_lt m _ _ _ hm
  have k2 := h2
  have lt2 : ∀ x ∈ p2, x.block < W.heap.size := by obtain ⟨m, hm⟩ := k2; exact DataW.trod_lt m _ _ _ hm
  have s0 := open_nodes (hval 0 35 v0 rfl rfl) h0
  have s1 := open_nodes (hval 1 35 v1 rfl rfl) h1
  obtain ⟨a2, rfl, rfl, rfl, w2⟩ := open_int Try.underlying3 (hval 2 3 v2 rfl rfl) h2
  clear hA0 hval0
  refine (walk s0 s1 a2 w2).mono fun e W' ⟨he, bel⟩ => ?_
  subst he
  exact ⟨_, rfl, _, _, _, [], _, [], hW', trodAll_mk1 (shut_bool Try.underlying4 _), (trodAll_cons_mk (Below.trod laidOut (by kernel_rfl) (of_decide_eq_true (by kernel_rfl)) k0 bel lt0) (trodAll_cons_mk (Below.trod laidOut (by kernel_rfl) (of_decide_eq_true (by kernel_rfl)) k1 bel lt1) (trodAll_cons_mk (Below.trod laidOut (by kernel_rfl) (of_decide_eq_true (by kernel_rfl)) k2 bel lt2) trodAll_mk0))), rfl, bel.frame _, fun h => by cases h⟩

theorem named : Try.prog.funcNamed Rows.treeBuiltRow.func = some 14 := by kernel_rfl
theorem inst : Try.f14.isInstance Try.prog Rows.treeBuiltRow.origin Rows.treeBuiltRow.targs := of_decide_eq_true (by kernel_rfl)
theorem wrap : Try.f14.isWrapper Try.prog Rows.treeBuiltRow.wrapper Rows.treeBuiltRow.mainSum := by unfold Func.isWrapper; first | (rw [if_pos (by decide +kernel)]; kernel_rfl) | (rw [if_neg (by decide +kernel)]; exact ⟨rfl, rfl⟩)
theorem e01 : Rows.treeBuiltRow.wf (OpenSpec.ofChange Rows.treeBuiltSpec) = true := by kernel_rfl
theorem e04 : Try.f14.params.all (Try.prog.readableRec ·) = true := by kernel_rfl
theorem e05 : namedTie Try.prog Rows.treeBuiltRow.named Rows.treeBuiltSpec.vars = true := by kernel_rfl
theorem e10 : (Rows.treeBuiltRow.inPlace == Try.prog.inPlace 14) = true := by kernel_rfl
theorem e11 : (Rows.treeBuiltRow.unfollowed == Try.prog.unfollowed 14) = true := by kernel_rfl
theorem e12 : (Rows.treeBuiltRow.recurses == Try.prog.recurses 14) = true := by kernel_rfl
theorem e13 : (Rows.treeBuiltRow.named == Try.prog.varsNamed 14) = true := by kernel_rfl
theorem e14 : (Rows.treeBuiltRow.maps == (Try.f14.params.toList ++ Rows.treeBuiltSpec.plain.varTypes Try.prog).any (Try.prog.mapsRec ·)) = true := by kernel_rfl
theorem e15 : (Rows.treeBuiltRow.ifaces == (Try.f14.params.toList ++ Rows.treeBuiltSpec.plain.varTypes Try.prog).any (Try.prog.ifacesRec ·)) = true := by kernel_rfl
theorem e16 : (Rows.treeBuiltRow.mapsOut == Try.prog.mapsAmong Try.f14.resultTypes.toList) = true := by kernel_rfl
theorem e17 : (Rows.treeBuiltRow.loops == (Try.f14.params.toList ++ Rows.treeBuiltSpec.plain.varTypes Try.prog).any (Try.prog.loopsFrom ·)) = true := by kernel_rfl
theorem e18 : (Rows.treeBuiltRow.wideKeys == (Try.f14.params.toList ++ Rows.treeBuiltSpec.plain.varTypes Try.prog ++ Try.f14.resultTypes.toList).any (Try.prog.wideKeysFrom ·)) = true := by kernel_rfl
theorem e19 : Rows.treeBuiltSpec.vars.all (Try.prog.varReadable ·) = true := by kernel_rfl
theorem e20 : Try.f14.resultTypes.all (fun t => Try.prog.readableRec t && decide (t < Try.prog.types.size)) = true := by kernel_rfl
theorem e21 : (Rows.treeBuiltRow.ifacesOut == Try.f14.resultTypes.toList.any (Try.prog.ifacesRec ·)) = true := by kernel_rfl
theorem e22 : (Rows.treeBuiltRow.loopsOut == Try.f14.resultTypes.toList.any (Try.prog.loopsFrom ·)) = true := by kernel_rfl
theorem e31 : (Rows.treeBuiltRow.veiled == (Try.f14.params.toList ++ Rows.treeBuiltSpec.plain.varTypes Try.prog ++ Try.f14.resultTypes.toList).any (Try.prog.veiledRec ·)) = true := by kernel_rfl
theorem e32 : Rows.treeBuiltRow.veiledFits Try.prog Try.f14.params.toList (Try.f14.params.toList ++ Rows.treeBuiltSpec.plain.varTypes Try.prog ++ Try.f14.resultTypes.toList) = true := by kernel_rfl
theorem closed : joinedFacts Try.prog 14 Try.f14 Rows.treeBuiltSpec Rows.treeBuiltRow = true :=
  Hd.closed_of e01 e04 e05 (by kernel_rfl) (by kernel_rfl) e10 e11 e12 e13 e14 e15 e16 e17 e18 e19 e20 e21 e22 (by kernel_rfl) rfl rfl rfl rfl rfl rfl e31 e32
theorem over : Rows.treeBuiltRow.holds Try.pinned (OpenSpec.ofChange Rows.treeBuiltSpec) :=
  OpenClaim.holds_of_wide 14 Try.f14 rfl rfl rfl rfl rfl rfl rfl ⟨rfl, rfl, rfl, rfl, rfl⟩ rfl rfl rfl rfl rfl named Try.func14 closed inst wrap
    (fun os started H enc _ => lifted os started H enc)

theorem proved : Rows.TreeBuiltSaid := over
#print axioms proved
end Go.Proofs.Ytelgenhmmfkmhaa.treeBuilt
