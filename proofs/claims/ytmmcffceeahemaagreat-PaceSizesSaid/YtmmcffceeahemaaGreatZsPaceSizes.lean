/-
  PaceSizes: of any numbers (of at most 4 words; longer ones ask the chapter's examples alone) what is cut at the end, and by any rules that may be, whether any error is accepted, the factor behind it, the size that is wanted next, and whether one is too small, are as the document has them; nothing that was there turns.
  Conditions: none.
-/
import Derived.Test.YtmmcffceeahemaaGreatZsHead
import Derived.Test.YtmmcffceeahemaaGreatZsPaceOpen
import Derived.Test.YtmmcffceeahemaaGreatZsPaceSizesW
namespace Go.Proofs.YtmmcffceeahemaaGreat.paceSizes
open Go.ChangeShapes Go.WideShapes Go.ChangeAt Go.RowKit
set_option linter.unusedVariables false
theorem walk {v u x : Value} {W : World}
 (h : ∃ (s1 s2 s3 s4 s5 : Bool) (A1 A2 A3 A4 A5 D1 D2 D3 D4 D5 : Option Addr) (l1 l2 l3 l4 l5 m1 m2 m3 m4 m5 : List Nat) (c1 c2 c3 c4 c5 e1 e2 e3 e4 e5 : Nat) (fi mo : Int), v = .agg #[.bool s1, .slice A1 l1.length c1, .slice D1 m1.length e1, .bool s2, .slice A2 l2.length c2, .slice D2 m2.length e2, .bool s3, .slice A3 l3.length c3, .slice D3 m3.length e3, .bool s4, .slice A4 l4.length c4, .slice D4 m4.length e4, .bool s5, .slice A5 l5.length c5, .slice D5 m5.length e5, .int .i64 fi, .int .i64 mo] ∧ (Ws W (.slice A1 l1.length c1) l1 ∧ Ws W (.slice D1 m1.length e1) m1) ∧ (Ws W (.slice A2 l2.length c2) l2 ∧ Ws W (.slice D2 m2.length e2) m2) ∧ (Ws W (.slice A3 l3.length c3) l3 ∧ Ws W (.slice D3 m3.length e3) m3) ∧ (Ws W (.slice A4 l4.length c4) l4 ∧ Ws W (.slice D4 m4.length e4) m4) ∧ (Ws W (.slice A5 l5.length c5) l5 ∧ Ws W (.slice D5 m5.length e5) m5) ∧ (-9223372036854775808 ≤ fi ∧ fi ≤ 9223372036854775807) ∧ (-9223372036854775808 ≤ mo ∧ mo ≤ 9223372036854775807))
 (h2 : ∃ s y d l m, u = .agg #[.bool s, y, d] ∧ Ws W y l ∧ Ws W d m)
 (h3 : ∃ (s1 s2 s3 : Bool) (A1 D1 A2 D2 A3 D3 : Option Addr) (l1 m1 l2 m2 l3 m3 : List Nat) (c1 e1 c2 e2 c3 e3 : Nat), x = .agg #[.bool s1, .slice A1 l1.length c1, .slice D1 m1.length e1, .bool s2, .slice A2 l2.length c2, .slice D2 m2.length e2, .bool s3, .slice A3 l3.length c3, .slice D3 m3.length e3] ∧ (Ws W (.slice A1 l1.length c1) l1 ∧ Ws W (.slice D1 m1.length e1) m1) ∧ (Ws W (.slice A2 l2.length c2) l2 ∧ Ws W (.slice D2 m2.length e2) m2) ∧ (Ws W (.slice A3 l3.length c3) l3 ∧ Ws W (.slice D3 m3.length e3) m3)) :
 Calls Tryz.prog 6 #[v, u, x] W fun e w' => e = .returned (.bool true) ∧ Below W.heap.size W w' := by
 obtain ⟨_, _, _, _, _, _, _, _, _, _, _, _, _, _, _, _, _, _, _, _, _, _, _, _, _, _, _, _, _, _, _, _, _, _, _, _, _, rfl, ⟨q1, r1⟩, ⟨q2, r2⟩, ⟨q3, r3⟩, ⟨q4, r4⟩, ⟨q5, r5⟩, hfi, hmo⟩ := h
 obtain ⟨_, _, _, _, _, rfl, a1, b1⟩ := h2
 obtain ⟨_, _, rfl⟩ := a1.form
 obtain ⟨_, _, rfl⟩ := b1.form
 obtain ⟨_, _, _, _, _, _, _, _, _, _, _, _, _, _, _, _, _, _, _, _, _, rfl, ⟨f1, g1⟩, ⟨f2, g2⟩, ⟨f3, g3⟩⟩ := h3
 exact paceSizes_walk q1 r1 q2 r2 q3 r3 q4 r4 q5 r5 a1 b1 f1 g1 f2 g2 f3 g3 hfi hmo
open Hd (own laidOut)
set_option maxRecDepth 100000 in
theorem lifted (os : Os) (started : os.Started) (H : Type) (enc : TypeId × Value → H) :
 ReturnsInHanded {} Tryz.checked os 6 .any (Rows.paceSizesSpec.pre6 enc Tryz.prog Tryz.f6 Rows.paceSizesRow.domain false) (Rows.paceSizesSpec.post enc Tryz.prog Tryz.f6 false true false false) := by
 refine returnsInHanded_of_change (C := Tryz.checked) own started (by kernel_rfl) Tryz.func6
  (ChangeSpec.witness6 (enc := enc) (C := Tryz.checked) false ⟨#[], #[.agg #[.bool false, .slice none 0 0, .slice none 0 0, .bool false, .slice none 0 0, .slice none 0 0, .bool false, .slice none 0 0, .slice none 0 0, .bool false, .slice none 0 0, .slice none 0 0, .bool false, .slice none 0 0, .slice none 0 0, .int .i64 0, .int .i64 0], .agg #[.bool false, .slice none 0 0, .slice none 0 0], .agg #[.bool false, .slice none 0 0, .slice none 0 0, .bool false, .slice none 0 0, .slice none 0 0, .bool false, .slice none 0 0, .slice none 0 0]], []⟩ 8 (by kernel_rfl) (by kernel_rfl) (by kernel_rfl) (by kernel_rfl)) ?_
 intro W base args ds gs before hval0 hW hcnd _
 have hval : ∀ (j : Nat) t v, Tryz.f6.params[j]? = some t → args[j]? = some v → Value.okWide Tryz.prog W .any base t v := hval0
 have hW' := hW
 obtain ⟨p, q, hA0, hV, rfl, hfz, hnd⟩ := hW
 have hA : DataW.TrodAll enc Tryz.prog W 0 (fun _ => true) true Tryz.f6.params.toList args.toList ds p := hA0
 rw [Tryz.params6] at hA hval
 obtain ⟨v0, vs0, d0, ds0, p0, q0, hargs, rfl, rfl, h0, r0⟩ := trodAll_cons hA
 obtain ⟨v1, vs1, d1, ds1, p1, q1, rfl, rfl, rfl, h1, r1⟩ := trodAll_cons r0
 obtain ⟨v2, vs2, d2, ds2, p2, q2, rfl, rfl, rfl, h2, r2⟩ := trodAll_cons r1
 obtain ⟨rfl, rfl, rfl⟩ := trodAll_nil r2
 obtain rfl : args = #[v0, v1, v2] := by cases args; simp_all
 obtain ⟨rfl, rfl⟩ := trodVars_none hV
 have k0 := h0
 have lt0 : ∀ x ∈ p0, x.block < W.heap.size := by obtain ⟨m, hm⟩ := k0; exact DataW.trod_lt m _ _ _ hm
 have k1 := h1
 have lt1 : ∀ x ∈ p1, x.block < W.heap.size := by obtain ⟨m, hm⟩ := k1; exact DataW.trod_lt m _ _ _ hm
 have k2 := h2
 have lt2 : ∀ x ∈ p2, x.block < W.heap.size := by obtain ⟨m, hm⟩ := k2; exact DataW.trod_lt m _ _ _ hm
 have s0 := open_rules (hval 0 26 v0 rfl rfl) h0
 have s1 := open_frac (hval 1 24 v1 rfl rfl) h1
 have s2 := open_three (hval 2 69 v2 rfl rfl) h2
 clear hA0 hval0
 refine (walk s0 s1 s2).mono fun e W' ⟨he, bel⟩ => ?_
 subst he
 exact ⟨_, rfl, _, _, _, [], _, [], hW', trodAll_mk1 (shut_bool Tryz.underlying4 _), (trodAll_cons_mk (Below.trod laidOut (by kernel_rfl) (of_decide_eq_true (by kernel_rfl)) k0 bel lt0) (trodAll_cons_mk (Below.trod laidOut (by kernel_rfl) (of_decide_eq_true (by kernel_rfl)) k1 bel lt1) (trodAll_cons_mk (Below.trod laidOut (by kernel_rfl) (of_decide_eq_true (by kernel_rfl)) k2 bel lt2) trodAll_mk0))), rfl, bel.frame _, fun h => by cases h⟩
theorem named : Tryz.prog.funcNamed Rows.paceSizesRow.func = some 6 := by kernel_rfl
theorem inst : Tryz.f6.isInstance Tryz.prog Rows.paceSizesRow.origin Rows.paceSizesRow.targs := of_decide_eq_true (by kernel_rfl)
theorem wrap : Tryz.f6.isWrapper Tryz.prog Rows.paceSizesRow.wrapper Rows.paceSizesRow.mainSum := by unfold Func.isWrapper; first | (rw [if_pos (by decide +kernel)]; kernel_rfl) | (rw [if_neg (by decide +kernel)]; exact ⟨rfl, rfl⟩)
theorem e01 : Rows.paceSizesRow.wf (OpenSpec.ofChange Rows.paceSizesSpec) = true := by kernel_rfl
theorem e04 : Tryz.f6.params.all (Tryz.prog.readableRec ·) = true := by kernel_rfl
theorem e05 : namedTie Tryz.prog Rows.paceSizesRow.named Rows.paceSizesSpec.vars = true := by kernel_rfl
theorem e10 : (Rows.paceSizesRow.inPlace == Tryz.prog.inPlace 6) = true := by kernel_rfl
theorem e11 : (Rows.paceSizesRow.unfollowed == Tryz.prog.unfollowed 6) = true := by kernel_rfl
theorem e12 : (Rows.paceSizesRow.recurses == Tryz.prog.recurses 6) = true := by kernel_rfl
theorem e13 : (Rows.paceSizesRow.named == Tryz.prog.varsNamed 6) = true := by kernel_rfl
theorem e14 : (Rows.paceSizesRow.maps == (Tryz.f6.params.toList ++ Rows.paceSizesSpec.plain.varTypes Tryz.prog).any (Tryz.prog.mapsRec ·)) = true := by kernel_rfl
theorem e15 : (Rows.paceSizesRow.ifaces == (Tryz.f6.params.toList ++ Rows.paceSizesSpec.plain.varTypes Tryz.prog).any (Tryz.prog.ifacesRec ·)) = true := by kernel_rfl
theorem e16 : (Rows.paceSizesRow.mapsOut == Tryz.prog.mapsAmong Tryz.f6.resultTypes.toList) = true := by kernel_rfl
theorem e17 : (Rows.paceSizesRow.loops == (Tryz.f6.params.toList ++ Rows.paceSizesSpec.plain.varTypes Tryz.prog).any (Tryz.prog.loopsFrom ·)) = true := by kernel_rfl
theorem e18 : (Rows.paceSizesRow.wideKeys == (Tryz.f6.params.toList ++ Rows.paceSizesSpec.plain.varTypes Tryz.prog ++ Tryz.f6.resultTypes.toList).any (Tryz.prog.wideKeysFrom ·)) = true := by kernel_rfl
theorem e19 : Rows.paceSizesSpec.vars.all (Tryz.prog.varReadable ·) = true := by kernel_rfl
theorem e20 : Tryz.f6.resultTypes.all (fun t => Tryz.prog.readableRec t && decide (t < Tryz.prog.types.size)) = true := by kernel_rfl
theorem e21 : (Rows.paceSizesRow.ifacesOut == Tryz.f6.resultTypes.toList.any (Tryz.prog.ifacesRec ·)) = true := by kernel_rfl
theorem e22 : (Rows.paceSizesRow.loopsOut == Tryz.f6.resultTypes.toList.any (Tryz.prog.loopsFrom ·)) = true := by kernel_rfl
theorem e31 : (Rows.paceSizesRow.veiled == (Tryz.f6.params.toList ++ Rows.paceSizesSpec.plain.varTypes Tryz.prog ++ Tryz.f6.resultTypes.toList).any (Tryz.prog.veiledRec ·)) = true := by kernel_rfl
theorem e32 : Rows.paceSizesRow.veiledFits Tryz.prog Tryz.f6.params.toList (Tryz.f6.params.toList ++ Rows.paceSizesSpec.plain.varTypes Tryz.prog ++ Tryz.f6.resultTypes.toList) = true := by kernel_rfl
theorem closed : joinedFacts Tryz.prog 6 Tryz.f6 Rows.paceSizesSpec Rows.paceSizesRow = true :=
 Hd.closed_of e01 e04 e05 (by kernel_rfl) (by kernel_rfl) e10 e11 e12 e13 e14 e15 e16 e17 e18 e19 e20 e21 e22 (by kernel_rfl) rfl rfl rfl rfl rfl rfl e31 e32
theorem over : Rows.paceSizesRow.holds Tryz.pinned (OpenSpec.ofChange Rows.paceSizesSpec) :=
 OpenClaim.holds_of_wide 6 Tryz.f6 rfl rfl rfl rfl rfl rfl rfl ⟨rfl, rfl, rfl, rfl, rfl⟩ rfl rfl rfl rfl rfl named Tryz.func6 closed inst wrap
  (fun os started H enc _ => lifted os started H enc)
theorem proved : Rows.PaceSizesSaid := over
#print axioms proved
end Go.Proofs.YtmmcffceeahemaaGreat.paceSizes
