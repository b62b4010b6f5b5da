/-
  TopNames: the kinds of faults, the limits, the kinds of words and the operations that are given have the numbers that the document names; nothing that was there turns.
  Conditions: none.
-/
import Derived.Test.YtelgenhmmfkmhaaHead
import Derived.Test.YtelgenhmmfkmhaaOpen
import Derived.Test.YtelgenhmmfkmhaaNatLaws
namespace Go.Proofs.Ytelgenhmmfkmhaa
open Go.RowKit
set_option linter.unusedVariables false

/-- A block of numbers of the machine. -/
def iv (x : Int) : Value := .int .i64 x
theorem ints_new (w : World) (l : List Int) : ∀ k, k < l.length → (w.alloc (.cells (l.map iv).toArray 3)).cell? ⟨w.heap.size, k, none⟩ = some (.int .i64 (l.getD k 0)) := fun k hk => by
  rw [cell_of_row _ _ _ _ _ (0, 0) (heap_alloc_new w _)]
  simp [iv, hk]
theorem kinds_at : ∀ k, k < 9 → ([0, 1, 2, 3, 4, 5, 6, 7, 8] : List Int).getD k 0 = k := by decide
theorem words_at : ∀ k, k < 3 → ([1, 2, 3] : List Int).getD k 0 = k + 1 := by decide
theorem ops_at : ∀ k, k < 11 → ([1, 2, 3, 4, 5, 6, 7, 8, 9, 10, 11] : List Int).getD k 0 = k + 1 := by decide

def lims : List Int := [4000, 60, 40, 300, 10, 12, 6, 6, 8, 8, 200, 4096, 1024]
theorem lims_two (w : World) : ∀ k, k < 13 → ((w.alloc (.cells #[.int .i64 4000, .int .i64 60, .int .i64 40, .int .i64 300, .int .i64 10, .int .i64 12, .int .i64 6, .int .i64 6, .int .i64 8, .int .i64 8, .int .i64 200, .int .i64 4096, .int .i64 1024] 3)).alloc (.cells #[.int .i64 4000, .int .i64 60, .int .i64 40, .int .i64 300, .int .i64 10, .int .i64 12, .int .i64 6, .int .i64 6, .int .i64 8, .int .i64 8, .int .i64 200, .int .i64 4096, .int .i64 1024] 3)).cell? ⟨w.heap.size, k, none⟩ = some (.int .i64 (lims.getD k 0))
    ∧ ((w.alloc (.cells #[.int .i64 4000, .int .i64 60, .int .i64 40, .int .i64 300, .int .i64 10, .int .i64 12, .int .i64 6, .int .i64 6, .int .i64 8, .int .i64 8, .int .i64 200, .int .i64 4096, .int .i64 1024] 3)).alloc (.cells #[.int .i64 4000, .int .i64 60, .int .i64 40, .int .i64 300, .int .i64 10, .int .i64 12, .int .i64 6, .int .i64 6, .int .i64 8, .int .i64 8, .int .i64 200, .int .i64 4096, .int .i64 1024] 3)).cell? ⟨w.heap.size + 1, k, none⟩ = some (.int .i64 (lims.getD k 0)) := fun k hk => by
  have h1 := ints_new w lims k hk
  have h2 := ints_new (w.alloc (.cells (lims.map iv).toArray 3)) lims k hk
  have hs : (w.alloc (.cells (lims.map iv).toArray 3)).heap.size = w.heap.size + 1 := by simp
  rw [hs] at h2
  have h3 := ((Up.refl (w.alloc (.cells (lims.map iv).toArray 3))).alloc (.cells (lims.map iv).toArray 3)).cell (p := ⟨w.heap.size, k, none⟩) (by rw [hs]; show w.heap.size < _; omega)
  exact ⟨h3.trans h1, h2⟩

set_option maxRecDepth 100000 in
set_option maxHeartbeats 3200000 in
theorem topNames_walk (w : World) : Calls Try.prog 15 #[] w fun e w' => e = .returned (.bool true) ∧ Up w w' := by
  have hc1 := ints_new w [0, 1, 2, 3, 4, 5, 6, 7, 8]
  have HC1 : Hid (∀ k, k < 9 → (w.alloc (.cells #[.int .i64 0, .int .i64 1, .int .i64 2, .int .i64 3, .int .i64 4, .int .i64 5, .int .i64 6, .int .i64 7, .int .i64 8] 3)).cell? ⟨w.heap.size, k, none⟩ = some (.int .i64 (k : Int))) := Lib.hid (fun k hk => by
    have := hc1 k hk
    rw [kinds_at k hk] at this
    exact this)
  have U1 : Up w (w.alloc (.cells #[.int .i64 0, .int .i64 1, .int .i64 2, .int .i64 3, .int .i64 4, .int .i64 5, .int .i64 6, .int .i64 7, .int .i64 8] 3)) := (Up.refl w).alloc _
  clear hc1
  go_enter Try.func15, Try.ntmps15
  go_wp2
  generalize w.alloc (.cells #[.int .i64 0, .int .i64 1, .int .i64 2, .int .i64 3, .int .i64 4, .int .i64 5, .int .i64 6, .int .i64 7, .int .i64 8] 3) = W1 at *
  generalize w.heap.size = N1 at *
  go_loop [2, 13] (fun _ s13 => ∃ k : Nat, k ≤ 9 ∧ s13 = .int .i64 k) (fun _ s13 => 9 - (intOf s13).toNat)
  case atStart => exact ⟨0, by omega, rfl⟩
  case round =>
    obtain ⟨k, hk, rfl⟩ := hrel
    by_cases hlt : k < 9
    · have hc := HC1.out k hlt
      go_wp2
      go_round
      case rel => exact ⟨k + 1, by omega, by go_num⟩
      case measure => simp [intOf]; omega
    · obtain rfl : k = 9 := by omega
      have HC2 := Lib.hid (lims_two W1)
      have U2 : Up w ((W1.alloc (.cells #[.int .i64 4000, .int .i64 60, .int .i64 40, .int .i64 300, .int .i64 10, .int .i64 12, .int .i64 6, .int .i64 6, .int .i64 8, .int .i64 8, .int .i64 200, .int .i64 4096, .int .i64 1024] 3)).alloc (.cells #[.int .i64 4000, .int .i64 60, .int .i64 40, .int .i64 300, .int .i64 10, .int .i64 12, .int .i64 6, .int .i64 6, .int .i64 8, .int .i64 8, .int .i64 200, .int .i64 4096, .int .i64 1024] 3)) := (U1.alloc _).alloc _
      clear HC1
      go_wp2
      generalize (W1.alloc (.cells #[.int .i64 4000, .int .i64 60, .int .i64 40, .int .i64 300, .int .i64 10, .int .i64 12, .int .i64 6, .int .i64 6, .int .i64 8, .int .i64 8, .int .i64 200, .int .i64 4096, .int .i64 1024] 3)).alloc (.cells #[.int .i64 4000, .int .i64 60, .int .i64 40, .int .i64 300, .int .i64 10, .int .i64 12, .int .i64 6, .int .i64 6, .int .i64 8, .int .i64 8, .int .i64 200, .int .i64 4096, .int .i64 1024] 3) = W2 at *
      generalize W1.heap.size = N2 at *
      clear U1
      go_loopw [5, 27] (fun _ s27 wr => ∃ k n : Nat, k ≤ 13 ∧ s27 = .int .i64 k ∧ wr = W2.drewN n) (fun _ s27 _ => 13 - (intOf s27).toNat)
      case atStart => exact ⟨0, 0, by omega, rfl, rfl⟩
      case round =>
        obtain ⟨k, n, hk, rfl, rfl⟩ := hrel
        by_cases hlt : k < 13
        · obtain ⟨hc, hd⟩ := HC2.out k hlt
          generalize lims.getD k 0 = x at *
          go_wp2
          go_quiet (fail)
          go_wp2
          go_roundw
          case rel => exact ⟨k + 1, _, by omega, by go_num, rfl⟩
          case measure => simp [intOf]; omega
        · obtain rfl : k = 13 := by omega
          clear HC2
          have U3 := U2.drewN n
          clear U2
          generalize W2.drewN n = W3 at *
          have hc3 := ints_new W3 [1, 2, 3]
          have HC3 : Hid (∀ k, k < 3 → (W3.alloc (.cells #[.int .i64 1, .int .i64 2, .int .i64 3] 3)).cell? ⟨W3.heap.size, k, none⟩ = some (.int .i64 ((k : Int) + 1))) := Lib.hid (fun k hk => by
            have := hc3 k hk
            rw [words_at k hk] at this
            exact this)
          have U4 : Up w (W3.alloc (.cells #[.int .i64 1, .int .i64 2, .int .i64 3] 3)) := U3.alloc _
          clear hc3 U3
          go_wp2
          generalize W3.alloc (.cells #[.int .i64 1, .int .i64 2, .int .i64 3] 3) = W4 at *
          generalize W3.heap.size = N3 at *
          go_loop [7, 43] (fun _ s43 => ∃ k : Nat, k ≤ 3 ∧ s43 = .int .i64 k) (fun _ s43 => 3 - (intOf s43).toNat)
          case atStart => exact ⟨0, by omega, rfl⟩
          case round =>
            obtain ⟨k, hk, rfl⟩ := hrel
            by_cases hlt : k < 3
            · have hc := HC3.out k hlt
              go_wp2
              go_round
              case rel => exact ⟨k + 1, by omega, by go_num⟩
              case measure => simp [intOf]; omega
            · obtain rfl : k = 3 := by omega
              clear HC3
              have hc4 := ints_new W4 [1, 2, 3, 4, 5, 6, 7, 8, 9, 10, 11]
              have HC4 : Hid (∀ k, k < 11 → (W4.alloc (.cells #[.int .i64 1, .int .i64 2, .int .i64 3, .int .i64 4, .int .i64 5, .int .i64 6, .int .i64 7, .int .i64 8, .int .i64 9, .int .i64 10, .int .i64 11] 3)).cell? ⟨W4.heap.size, k, none⟩ = some (.int .i64 ((k : Int) + 1))) := Lib.hid (fun k hk => by
                have := hc4 k hk
                rw [ops_at k hk] at this
                exact this)
              have U5 : Up w (W4.alloc (.cells #[.int .i64 1, .int .i64 2, .int .i64 3, .int .i64 4, .int .i64 5, .int .i64 6, .int .i64 7, .int .i64 8, .int .i64 9, .int .i64 10, .int .i64 11] 3)) := U4.alloc _
              clear hc4 U4
              go_wp2
              generalize W4.alloc (.cells #[.int .i64 1, .int .i64 2, .int .i64 3, .int .i64 4, .int .i64 5, .int .i64 6, .int .i64 7, .int .i64 8, .int .i64 9, .int .i64 10, .int .i64 11] 3) = W5 at *
              generalize W4.heap.size = N4 at *
              go_loop [9, 57] (fun _ s57 => ∃ k : Nat, k ≤ 11 ∧ s57 = .int .i64 k) (fun _ s57 => 11 - (intOf s57).toNat)
              case atStart => exact ⟨0, by omega, rfl⟩
              case round =>
                obtain ⟨k, hk, rfl⟩ := hrel
                by_cases hlt : k < 11
                · have hc := HC4.out k hlt
                  go_wp2
                  go_round
                  case rel => exact ⟨k + 1, by omega, by go_num⟩
                  case measure => simp [intOf]; omega
                · obtain rfl : k = 11 := by omega
                  clear HC4
                  have H21 := Lib.hid (Wd.cmpI_gt (a := 2) (b := 1) (by omega))
                  go_wp2_with fail
                  refine (nat_of 2 rfl (by omega) _).mono ?_
                  rintro e w6 ⟨v6, rfl, s6, u6⟩
                  go_wp2_with fail
                  refine (nat_of 1 rfl (by omega) _).mono ?_
                  rintro e w7 ⟨v7, rfl, s7, u7⟩
                  go_wp2_with fail
                  refine (nat_cmp_up (s6.up u7) s7 (len1 (by omega)) (len1 (by omega))).mono ?_
                  rintro e w8 ⟨rfl, u8⟩
                  rw [Wd.val_words, Wd.val_words, H21.out]
                  have g8 := ((U5.trans u6).trans u7).trans u8
                  go_wp2
                  go_ret
                  exact ⟨rfl, g8⟩
end Go.Proofs.Ytelgenhmmfkmhaa
namespace Go.Proofs.Ytelgenhmmfkmhaa.topNames
open Go.ChangeShapes Go.WideShapes Go.ChangeAt Go.RowKit
set_option linter.unusedVariables false

theorem walk {W : World} : Calls Try.prog 15 #[] W fun e w' => e = .returned (.bool true) ∧ Below W.heap.size W w' := topNames_walk W

open Hd (own laidOut)

set_option maxRecDepth 100000 in
theorem lifted (os : Os) (started : os.Started) (H : Type) (enc : TypeId × Value → H) :
    ReturnsInHanded {} Try.checked os 15 .any (Rows.topNamesSpec.pre6 enc Try.prog Try.f15 Rows.topNamesRow.domain false) (Rows.topNamesSpec.post enc Try.prog Try.f15 false true false false) := by
  refine returnsInHanded_of_change (C := Try.checked) own started (by kernel_rfl) Try.func15
    (ChangeSpec.witness6 (enc := enc) (C := Try.checked) false ⟨#[], #[], []⟩ 8 (by kernel_rfl) (by kernel_rfl) (by kernel_rfl) (by kernel_rfl)) ?_
  intro W base args ds gs before hval0 hW hcnd _
  have hval : ∀ (j : Nat) t v, Try.f15.params[j]? = some t → args[j]? = some v → Value.okWide Try.prog W .any base t v := hval0
  have hW' := hW
  obtain ⟨p, q, hA0, hV, rfl, hfz, hnd⟩ := hW
  have hA : DataW.TrodAll enc Try.prog W 0 (fun _ => true) true Try.f15.params.toList args.toList ds p := hA0
  rw [Try.params15] at hA hval
  obtain ⟨hargs, rfl, rfl⟩ := trodAll_nil hA
  obtain rfl : args = #[] := by cases args; simp_all
  obtain ⟨rfl, rfl⟩ := trodVars_none hV


  clear hA0 hval0
  refine (walk ).mono fun e W' ⟨he, bel⟩ => ?_
  subst he
  exact ⟨_, rfl, _, _, _, [], _, [], hW', trodAll_mk1 (shut_bool Try.underlying4 _), rfl, rfl, bel.frame _, fun h => by cases h⟩

theorem named : Try.prog.funcNamed Rows.topNamesRow.func = some 15 := by kernel_rfl
theorem inst : Try.f15.isInstance Try.prog Rows.topNamesRow.origin Rows.topNamesRow.targs := of_decide_eq_true (by kernel_rfl)
theorem wrap : Try.f15.isWrapper Try.prog Rows.topNamesRow.wrapper Rows.topNamesRow.mainSum := by unfold Func.isWrapper; first | (rw [if_pos (by decide +kernel)]; kernel_rfl) | (rw [if_neg (by decide +kernel)]; exact ⟨rfl, rfl⟩)
theorem e01 : Rows.topNamesRow.wf (OpenSpec.ofChange Rows.topNamesSpec) = true := by kernel_rfl
theorem e04 : Try.f15.params.all (Try.prog.readableRec ·) = true := by kernel_rfl
theorem e05 : namedTie Try.prog Rows.topNamesRow.named Rows.topNamesSpec.vars = true := by kernel_rfl
theorem e10 : (Rows.topNamesRow.inPlace == Try.prog.inPlace 15) = true := by kernel_rfl
theorem e11 : (Rows.topNamesRow.unfollowed == Try.prog.unfollowed 15) = true := by kernel_rfl
theorem e12 : (Rows.topNamesRow.recurses == Try.prog.recurses 15) = true := by kernel_rfl
theorem e13 : (Rows.topNamesRow.named == Try.prog.varsNamed 15) = true := by kernel_rfl
theorem e14 : (Rows.topNamesRow.maps == (Try.f15.params.toList ++ Rows.topNamesSpec.plain.varTypes Try.prog).any (Try.prog.mapsRec ·)) = true := by kernel_rfl
theorem e15 : (Rows.topNamesRow.ifaces == (Try.f15.params.toList ++ Rows.topNamesSpec.plain.varTypes Try.prog).any (Try.prog.ifacesRec ·)) = true := by kernel_rfl
theorem e16 : (Rows.topNamesRow.mapsOut == Try.prog.mapsAmong Try.f15.resultTypes.toList) = true := by kernel_rfl
theorem e17 : (Rows.topNamesRow.loops == (Try.f15.params.toList ++ Rows.topNamesSpec.plain.varTypes Try.prog).any (Try.prog.loopsFrom ·)) = true := by kernel_rfl
theorem e18 : (Rows.topNamesRow.wideKeys == (Try.f15.params.toList ++ Rows.topNamesSpec.plain.varTypes Try.prog ++ Try.f15.resultTypes.toList).any (Try.prog.wideKeysFrom ·)) = true := by kernel_rfl
theorem e19 : Rows.topNamesSpec.vars.all (Try.prog.varReadable ·) = true := by kernel_rfl
theorem e20 : Try.f15.resultTypes.all (fun t => Try.prog.readableRec t && decide (t < Try.prog.types.size)) = true := by kernel_rfl
theorem e21 : (Rows.topNamesRow.ifacesOut == Try.f15.resultTypes.toList.any (Try.prog.ifacesRec ·)) = true := by kernel_rfl
theorem e22 : (Rows.topNamesRow.loopsOut == Try.f15.resultTypes.toList.any (Try.prog.loopsFrom ·)) = true := by kernel_rfl
theorem e31 : (Rows.topNamesRow.veiled == (Try.f15.params.toList ++ Rows.topNamesSpec.plain.varTypes Try.prog ++ Try.f15.resultTypes.toList).any (Try.prog.veiledRec ·)) = true := by kernel_rfl
theorem e32 : Rows.topNamesRow.veiledFits Try.prog Try.f15.params.toList (Try.f15.params.toList ++ Rows.topNamesSpec.plain.varTypes Try.prog ++ Try.f15.resultTypes.toList) = true := by kernel_rfl
theorem closed : joinedFacts Try.prog 15 Try.f15 Rows.topNamesSpec Rows.topNamesRow = true :=
  Hd.closed_of e01 e04 e05 (by kernel_rfl) (by kernel_rfl) e10 e11 e12 e13 e14 e15 e16 e17 e18 e19 e20 e21 e22 (by kernel_rfl) rfl rfl rfl rfl rfl rfl e31 e32
theorem over : Rows.topNamesRow.holds Try.pinned (OpenSpec.ofChange Rows.topNamesSpec) :=
  OpenClaim.holds_of_wide 15 Try.f15 rfl rfl rfl rfl rfl rfl rfl ⟨rfl, rfl, rfl, rfl, rfl⟩ rfl rfl rfl rfl rfl named Try.func15 closed inst wrap
    (fun os started H enc _ => lifted os started H enc)

theorem proved : Rows.TopNamesSaid := over
#print axioms proved
end Go.Proofs.Ytelgenhmmfkmhaa.topNames
