/-
  Layer 36, the document's answers: a number that may not be.
-/
import Derived.Test.YtmmcffceeahemaaGreatZsPace1
import Derived.Test.YtmmcffceeahemaaGreatZsFracLaw
import Derived.Test.YtmmcffceeahemaaGreatZsRefFrac6
set_option linter.unusedVariables false
set_option linter.unusedSimpArgs false
namespace Go.Proofs.YtmmcffceeahemaaGreat
open Go.RowKit
theorem rawB_comm (s t : Bool) (l l' m m' : List Nat) : rawB s t l l' m m' = rawB t s l' l m' m := by
 unfold rawB
 rw [Bool.eq_iff_iff]
 simp only [Bool.and_eq_true, beq_iff_eq, decide_eq_true_eq]
 exact ⟨fun ⟨a, b, c⟩ => ⟨a.symm, b.symm, c.symm⟩, fun ⟨a, b, c⟩ => ⟨a.symm, b.symm, c.symm⟩⟩
set_option maxRecDepth 100000 in
set_option maxHeartbeats 3200000 in
theorem ref_bad {s : Bool} {A D : Option Addr} {l m : List Nat} {c d : Nat} {w : World} (hl : Ws w (.slice A l.length c) l) (hm : Ws w (.slice D m.length d) m) (hf : l.length ≤ 1000 ∧ m.length ≤ 1000) :
 Calls Tryz.prog 91 #[.agg #[.bool s, .slice A l.length c, .slice D m.length d]] w fun e w' => e = .returned (.bool (!good (s, l, m))) ∧ Up w w' := by
 obtain ⟨f1, f2⟩ := hf
 have FX : Fr w (.agg #[.bool s, .slice A l.length c, .slice D m.length d]) (mkRat (Wd.iv s (Wd.val l)) (Wd.val m)) 1000 := ⟨s, _, _, l, m, rfl, hl, hm, rfl, f1, f2, by omega⟩
 have LX := FX.lq
 obtain ⟨x, HX⟩ : ∃ x, Hid (mkRat (Wd.iv s (Wd.val l)) (Wd.val m) = x) := ⟨_, Lib.hid rfl⟩
 have LX1 : (Wd.words x.num.natAbs).length ≤ 100000000 := by rw [← HX.out]; exact Nat.le_trans LX.1 (by omega)
 have LX2 : (Wd.words x.den).length ≤ 100000000 := by rw [← HX.out]; exact Nat.le_trans LX.2 (by omega)
 obtain ⟨tb, HB⟩ : ∃ t, Hid (rawB (Wd.ngb x.num) s (Wd.words x.num.natAbs) l (Wd.words x.den) m = t) := ⟨_, Lib.hid rfl⟩
 obtain ⟨z, HZ⟩ : ∃ z, Hid (((Wd.bl (Wd.val l) + Wd.bl (Wd.val m) : Nat) : Int) = z) := ⟨_, Lib.hid rfl⟩
 have HG : Hid (good (s, l, m) = (tb && decide (¬ z > 190))) := Lib.hid (by
  unfold good Raw.val
  simp only
  rw [HX.out, rawB_comm, HB.out, ← HZ.out]
  congr 1
  exact decide_eq_decide.2 (by omega))
 rw [HG.out]
 rw [HX.out] at FX
 clear LX
 cases tb
 · skip
   have UP : Up w (w.alloc (.cells #[.bool s, .slice A l.length c, .slice D m.length d] 24)) := (Up.refl w).alloc _
   have b0 := Bx.new 24 w [.bool s, .slice A l.length c, .slice D m.length d]
   go_enter Tryz.func91, Tryz.ntmps91
   go_wp2_with fail
   generalize (w.alloc (.cells #[.bool s, .slice A l.length c, .slice D m.length d] 24)) = W at *
   replace FX := FX.up UP
   replace hl := hl.up UP
   replace hm := hm.up UP
   obtain ⟨b0_0, b0_1, b0_2⟩ := b0.c3
   replace FX := FX.up (Up.refl W).drew
   replace hl := hl.up (Up.refl W).drew
   replace hm := hm.up (Up.refl W).drew
   replace b0 := b0.up (Up.refl W).drew
   replace UP := UP.trans (Up.refl W).drew
   clear b0_0 b0_1 b0_2
   obtain ⟨b0_0, b0_1, b0_2⟩ := b0.c3
   refine wp_region_noPanic ?_
   refine wp_region_held_drew (S := fun w' => Up w w' ∧ w'.cell? ⟨w.heap.size, 0, none⟩ = some (.bool s) ∧ w'.cell? ⟨w.heap.size, 1, none⟩ = some (.slice A l.length c) ∧ w'.cell? ⟨w.heap.size, 2, none⟩ = some (.slice D m.length d)) (by kernel_rfl) ?_ (fun hHeld => ?_)
   · with_reducible exact ⟨UP, b0_0, b0_1, b0_2⟩
   refine wpAnyH_take (i := 0) (v := ?_) rfl (by kernel_rfl) (by kernel_rfl) (by kernel_rfl) (fun _ _ _ h => h) (Or.inl ⟨by rfl, ?_⟩) (by assumption) ?_
   rotate_left
   · (intro w hSw; (try dsimp only at hSw); go_simp; first | done | with_reducible rfl)
   try simp only [List.getElem_toArray, List.getElem_cons_zero, List.getElem_cons_succ, Act.put, List.setIfInBounds_toArray, List.set_cons_zero, List.set_cons_succ]
   refine wpAnyH_take (i := 2) (v := ?_) rfl (by kernel_rfl) (by kernel_rfl) (by kernel_rfl) (fun _ _ _ h => h) (Or.inl ⟨by rfl, ?_⟩) (by assumption) ?_
   rotate_left
   · (intro w hSw; (try dsimp only at hSw); go_simp; first | done | with_reducible rfl)
   try simp only [List.getElem_toArray, List.getElem_cons_zero, List.getElem_cons_succ, Act.put, List.setIfInBounds_toArray, List.set_cons_zero, List.set_cons_succ]
   refine wpAnyH_ready (rs := [1]) (by kernel_rfl) (by simp) ?_
   refine AllReadyH.cons rfl (fun K hK => ?_) AllReadyH.nil
   go_simp
   (first
     | (go_at_call 24
        ((with_reducible refine (ref9_norm FX (by omega)).mono ?_))
        rintro e W1 ⟨V1, rfl, a, u1⟩
        replace FX := FX.up u1
        replace hl := hl.up u1
        replace hm := hm.up u1
        try (replace a := a.up u1)
        replace b0 := b0.up u1
        replace UP := UP.trans u1
        clear b0_0 b0_1 b0_2
        obtain ⟨b0_0, b0_1, b0_2⟩ := b0.c3
        clear u1
        obtain ⟨Xa, Ya, rfl, a, ad⟩ := a
        obtain ⟨Aa, na, ca, rfl⟩ := a.shape
        obtain ⟨Aad, nad, cad, rfl⟩ := ad.shape))
   try go_wp2_with fail
   try clear hHeld
   refine hK.out _ _ ?_ (fun hHeld => ?_)
   · with_reducible exact ⟨UP, b0_0, b0_1, b0_2⟩
   clear hK K
   try simp only [List.getElem_toArray, List.getElem_cons_zero, List.getElem_cons_succ, Act.put, List.setIfInBounds_toArray, List.set_cons_zero, List.set_cons_succ]
   refine wpAnyH_ready (rs := [3]) (by kernel_rfl) (by simp) ?_
   refine AllReadyH.cons rfl (fun K hK => ?_) AllReadyH.nil
   go_simp
   (first
     | (go_at_call 97
        ((with_reducible refine (ref_same9 a ad hl hm LX1 LX2 (by omega) (by omega)).mono ?_))
        rintro e W2 ⟨rfl, u2⟩
        replace FX := FX.up u2
        replace hl := hl.up u2
        replace hm := hm.up u2
        try (replace a := a.up u2)
        replace b0 := b0.up u2
        replace UP := UP.trans u2
        clear b0_0 b0_1 b0_2
        obtain ⟨b0_0, b0_1, b0_2⟩ := b0.c3
        clear u2
        rw [HB.out]))
   try go_wp2_with fail
   try clear hHeld
   refine hK.out _ _ ?_ (fun hHeld => ?_)
   · with_reducible exact ⟨UP, b0_0, b0_1, b0_2⟩
   clear hK K
   try simp only [List.getElem_toArray, List.getElem_cons_zero, List.getElem_cons_succ, Act.put, List.setIfInBounds_toArray, List.set_cons_zero, List.set_cons_succ]
   refine wpAnyH_take (i := 4) (v := ?_) rfl (by kernel_rfl) (by kernel_rfl) (by kernel_rfl) (fun _ _ _ h => h) (Or.inl ⟨by rfl, ?_⟩) (by assumption) ?_
   rotate_left
   · (intro w hSw; (try dsimp only at hSw); go_simp; first | done | with_reducible rfl)
   try simp only [List.getElem_toArray, List.getElem_cons_zero, List.getElem_cons_succ, Act.put, List.setIfInBounds_toArray, List.set_cons_zero, List.set_cons_succ]
   refine wpAnyH_take (i := 5) (v := ?_) rfl (by kernel_rfl) (by kernel_rfl) (by kernel_rfl) (fun _ _ _ h => h) (Or.inl ⟨by rfl, ?_⟩) (by assumption) ?_
   rotate_left
   · (intro w hSw; (try dsimp only at hSw); go_simp; first | done | with_reducible rfl)
   try simp only [List.getElem_toArray, List.getElem_cons_zero, List.getElem_cons_succ, Act.put, List.setIfInBounds_toArray, List.set_cons_zero, List.set_cons_succ]
   refine wpAnyH_take (i := 6) (v := undef) rfl (by kernel_rfl) (by kernel_rfl) (by kernel_rfl) (fun _ _ _ h => h) (Or.inr ⟨by rfl, rfl⟩) (by assumption) ?_
   try simp only [List.getElem_toArray, List.getElem_cons_zero, List.getElem_cons_succ, Act.put, List.setIfInBounds_toArray, List.set_cons_zero, List.set_cons_succ]
   refine wpAnyH_take (i := 7) (v := undef) rfl (by kernel_rfl) (by kernel_rfl) (by kernel_rfl) (fun _ _ _ h => h) (Or.inr ⟨by rfl, rfl⟩) (by assumption) ?_
   try simp only [List.getElem_toArray, List.getElem_cons_zero, List.getElem_cons_succ, Act.put, List.setIfInBounds_toArray, List.set_cons_zero, List.set_cons_succ]
   refine wpAnyH_take (i := 8) (v := undef) rfl (by kernel_rfl) (by kernel_rfl) (by kernel_rfl) (fun _ _ _ h => h) (Or.inr ⟨by rfl, rfl⟩) (by assumption) ?_
   try simp only [List.getElem_toArray, List.getElem_cons_zero, List.getElem_cons_succ, Act.put, List.setIfInBounds_toArray, List.set_cons_zero, List.set_cons_succ]
   refine wpAnyH_take (i := 9) (v := ?_) rfl (by kernel_rfl) (by kernel_rfl) (by kernel_rfl) (fun _ _ _ h => h) (Or.inl ⟨by rfl, ?_⟩) (by assumption) ?_
   rotate_left
   · (intro w hSw; (try dsimp only at hSw); go_simp; first | done | with_reducible rfl)
   try simp only [List.getElem_toArray, List.getElem_cons_zero, List.getElem_cons_succ, Act.put, List.setIfInBounds_toArray, List.set_cons_zero, List.set_cons_succ]
   refine wpAnyH_take (i := 10) (v := ?_) rfl (by kernel_rfl) (by kernel_rfl) (by kernel_rfl) (fun _ _ _ h => h) (Or.inl ⟨by rfl, ?_⟩) (by assumption) ?_
   rotate_left
   · (intro w hSw; (try dsimp only at hSw); go_simp; first | done | with_reducible rfl)
   try simp only [List.getElem_toArray, List.getElem_cons_zero, List.getElem_cons_succ, Act.put, List.setIfInBounds_toArray, List.set_cons_zero, List.set_cons_succ]
   refine wpAnyH_done (by kernel_rfl) ?_ _
   refine NoPanic.normal ?_
   clear hHeld
   go_wp2
   go_ret
   exact ⟨rfl, UP⟩
 · by_cases hz : z > 190
   · rw [show decide (¬ z > 190) = false from decide_eq_false (fun k => k hz)]
     have UP : Up w (w.alloc (.cells #[.bool s, .slice A l.length c, .slice D m.length d] 24)) := (Up.refl w).alloc _
     have b0 := Bx.new 24 w [.bool s, .slice A l.length c, .slice D m.length d]
     go_enter Tryz.func91, Tryz.ntmps91
     go_wp2_with fail
     generalize (w.alloc (.cells #[.bool s, .slice A l.length c, .slice D m.length d] 24)) = W at *
     replace FX := FX.up UP
     replace hl := hl.up UP
     replace hm := hm.up UP
     obtain ⟨b0_0, b0_1, b0_2⟩ := b0.c3
     replace FX := FX.up (Up.refl W).drew
     replace hl := hl.up (Up.refl W).drew
     replace hm := hm.up (Up.refl W).drew
     replace b0 := b0.up (Up.refl W).drew
     replace UP := UP.trans (Up.refl W).drew
     clear b0_0 b0_1 b0_2
     obtain ⟨b0_0, b0_1, b0_2⟩ := b0.c3
     refine wp_region_noPanic ?_
     refine wp_region_held_drew (S := fun w' => Up w w' ∧ w'.cell? ⟨w.heap.size, 0, none⟩ = some (.bool s) ∧ w'.cell? ⟨w.heap.size, 1, none⟩ = some (.slice A l.length c) ∧ w'.cell? ⟨w.heap.size, 2, none⟩ = some (.slice D m.length d)) (by kernel_rfl) ?_ (fun hHeld => ?_)
     · with_reducible exact ⟨UP, b0_0, b0_1, b0_2⟩
     refine wpAnyH_take (i := 0) (v := ?_) rfl (by kernel_rfl) (by kernel_rfl) (by kernel_rfl) (fun _ _ _ h => h) (Or.inl ⟨by rfl, ?_⟩) (by assumption) ?_
     rotate_left
     · (intro w hSw; (try dsimp only at hSw); go_simp; first | done | with_reducible rfl)
     try simp only [List.getElem_toArray, List.getElem_cons_zero, List.getElem_cons_succ, Act.put, List.setIfInBounds_toArray, List.set_cons_zero, List.set_cons_succ]
     refine wpAnyH_take (i := 2) (v := ?_) rfl (by kernel_rfl) (by kernel_rfl) (by kernel_rfl) (fun _ _ _ h => h) (Or.inl ⟨by rfl, ?_⟩) (by assumption) ?_
     rotate_left
     · (intro w hSw; (try dsimp only at hSw); go_simp; first | done | with_reducible rfl)
     try simp only [List.getElem_toArray, List.getElem_cons_zero, List.getElem_cons_succ, Act.put, List.setIfInBounds_toArray, List.set_cons_zero, List.set_cons_succ]
     refine wpAnyH_ready (rs := [1]) (by kernel_rfl) (by simp) ?_
     refine AllReadyH.cons rfl (fun K hK => ?_) AllReadyH.nil
     go_simp
     (first
       | (go_at_call 24
          ((with_reducible refine (ref9_norm FX (by omega)).mono ?_))
          rintro e W1 ⟨V1, rfl, a, u1⟩
          replace FX := FX.up u1
          replace hl := hl.up u1
          replace hm := hm.up u1
          try (replace a := a.up u1)
          replace b0 := b0.up u1
          replace UP := UP.trans u1
          clear b0_0 b0_1 b0_2
          obtain ⟨b0_0, b0_1, b0_2⟩ := b0.c3
          clear u1
          obtain ⟨Xa, Ya, rfl, a, ad⟩ := a
          obtain ⟨Aa, na, ca, rfl⟩ := a.shape
          obtain ⟨Aad, nad, cad, rfl⟩ := ad.shape))
     try go_wp2_with fail
     try clear hHeld
     refine hK.out _ _ ?_ (fun hHeld => ?_)
     · with_reducible exact ⟨UP, b0_0, b0_1, b0_2⟩
     clear hK K
     try simp only [List.getElem_toArray, List.getElem_cons_zero, List.getElem_cons_succ, Act.put, List.setIfInBounds_toArray, List.set_cons_zero, List.set_cons_succ]
     refine wpAnyH_ready (rs := [3]) (by kernel_rfl) (by simp) ?_
     refine AllReadyH.cons rfl (fun K hK => ?_) AllReadyH.nil
     go_simp
     (first
       | (go_at_call 97
          ((with_reducible refine (ref_same9 a ad hl hm LX1 LX2 (by omega) (by omega)).mono ?_))
          rintro e W2 ⟨rfl, u2⟩
          replace FX := FX.up u2
          replace hl := hl.up u2
          replace hm := hm.up u2
          try (replace a := a.up u2)
          replace b0 := b0.up u2
          replace UP := UP.trans u2
          clear b0_0 b0_1 b0_2
          obtain ⟨b0_0, b0_1, b0_2⟩ := b0.c3
          clear u2
          rw [HB.out]))
     try go_wp2_with fail
     try clear hHeld
     refine hK.out _ _ ?_ (fun hHeld => ?_)
     · with_reducible exact ⟨UP, b0_0, b0_1, b0_2⟩
     clear hK K
     try simp only [List.getElem_toArray, List.getElem_cons_zero, List.getElem_cons_succ, Act.put, List.setIfInBounds_toArray, List.set_cons_zero, List.set_cons_succ]
     refine wpAnyH_take (i := 4) (v := ?_) rfl (by kernel_rfl) (by kernel_rfl) (by kernel_rfl) (fun _ _ _ h => h) (Or.inl ⟨by rfl, ?_⟩) (by assumption) ?_
     rotate_left
     · (intro w hSw; (try dsimp only at hSw); go_simp; first | done | with_reducible rfl)
     try simp only [List.getElem_toArray, List.getElem_cons_zero, List.getElem_cons_succ, Act.put, List.setIfInBounds_toArray, List.set_cons_zero, List.set_cons_succ]
     refine wpAnyH_take (i := 5) (v := ?_) rfl (by kernel_rfl) (by kernel_rfl) (by kernel_rfl) (fun _ _ _ h => h) (Or.inl ⟨by rfl, ?_⟩) (by assumption) ?_
     rotate_left
     · (intro w hSw; (try dsimp only at hSw); go_simp; first | done | with_reducible rfl)
     try simp only [List.getElem_toArray, List.getElem_cons_zero, List.getElem_cons_succ, Act.put, List.setIfInBounds_toArray, List.set_cons_zero, List.set_cons_succ]
     refine wpAnyH_take (i := 6) (v := ?_) rfl (by kernel_rfl) (by kernel_rfl) (by kernel_rfl) (fun _ _ _ h => h) (Or.inl ⟨by rfl, ?_⟩) (by assumption) ?_
     rotate_left
     · (intro w hSw; (try dsimp only at hSw); go_simp; first | done | with_reducible rfl)
     try simp only [List.getElem_toArray, List.getElem_cons_zero, List.getElem_cons_succ, Act.put, List.setIfInBounds_toArray, List.set_cons_zero, List.set_cons_succ]
     refine wpAnyH_ready (rs := [7]) (by kernel_rfl) (by simp) ?_
     refine AllReadyH.cons rfl (fun K hK => ?_) AllReadyH.nil
     go_simp
     (first
       | (go_at_call 136
          ((with_reducible refine (ref9_size hl hm (by omega) (by omega)).mono ?_))
          rintro e W3 ⟨rfl, u3⟩
          replace FX := FX.up u3
          replace hl := hl.up u3
          replace hm := hm.up u3
          try (replace a := a.up u3)
          replace b0 := b0.up u3
          replace UP := UP.trans u3
          clear b0_0 b0_1 b0_2
          obtain ⟨b0_0, b0_1, b0_2⟩ := b0.c3
          clear u3
          rw [HZ.out]))
     try go_wp2_with fail
     try clear hHeld
     refine hK.out _ _ ?_ (fun hHeld => ?_)
     · with_reducible exact ⟨UP, b0_0, b0_1, b0_2⟩
     clear hK K
     try simp only [List.getElem_toArray, List.getElem_cons_zero, List.getElem_cons_succ, Act.put, List.setIfInBounds_toArray, List.set_cons_zero, List.set_cons_succ]
     refine wpAnyH_take (i := 8) (v := ?_) rfl (by kernel_rfl) (by kernel_rfl) (by kernel_rfl) (fun _ _ _ h => h) (Or.inl ⟨by rfl, ?_⟩) (by assumption) ?_
     rotate_left
     · (intro w hSw; (try dsimp only at hSw); go_simp; first | done | with_reducible rfl)
     try simp only [List.getElem_toArray, List.getElem_cons_zero, List.getElem_cons_succ, Act.put, List.setIfInBounds_toArray, List.set_cons_zero, List.set_cons_succ]
     refine wpAnyH_take (i := 9) (v := ?_) rfl (by kernel_rfl) (by kernel_rfl) (by kernel_rfl) (fun _ _ _ h => h) (Or.inl ⟨by rfl, ?_⟩) (by assumption) ?_
     rotate_left
     · (intro w hSw; (try dsimp only at hSw); go_simp; first | done | with_reducible rfl)
     try simp only [List.getElem_toArray, List.getElem_cons_zero, List.getElem_cons_succ, Act.put, List.setIfInBounds_toArray, List.set_cons_zero, List.set_cons_succ]
     refine wpAnyH_take (i := 10) (v := ?_) rfl (by kernel_rfl) (by kernel_rfl) (by kernel_rfl) (fun _ _ _ h => h) (Or.inl ⟨by rfl, ?_⟩) (by assumption) ?_
     rotate_left
     · (intro w hSw; (try dsimp only at hSw); go_simp; first | done | with_reducible rfl)
     try simp only [List.getElem_toArray, List.getElem_cons_zero, List.getElem_cons_succ, Act.put, List.setIfInBounds_toArray, List.set_cons_zero, List.set_cons_succ]
     refine wpAnyH_done (by kernel_rfl) ?_ _
     refine NoPanic.normal ?_
     clear hHeld
     go_wp2
     go_ret
     exact ⟨rfl, UP⟩
   · rw [show decide (¬ z > 190) = true from decide_eq_true hz]
     have UP : Up w (w.alloc (.cells #[.bool s, .slice A l.length c, .slice D m.length d] 24)) := (Up.refl w).alloc _
     have b0 := Bx.new 24 w [.bool s, .slice A l.length c, .slice D m.length d]
     go_enter Tryz.func91, Tryz.ntmps91
     go_wp2_with fail
     generalize (w.alloc (.cells #[.bool s, .slice A l.length c, .slice D m.length d] 24)) = W at *
     replace FX := FX.up UP
     replace hl := hl.up UP
     replace hm := hm.up UP
     obtain ⟨b0_0, b0_1, b0_2⟩ := b0.c3
     replace FX := FX.up (Up.refl W).drew
     replace hl := hl.up (Up.refl W).drew
     replace hm := hm.up (Up.refl W).drew
     replace b0 := b0.up (Up.refl W).drew
     replace UP := UP.trans (Up.refl W).drew
     clear b0_0 b0_1 b0_2
     obtain ⟨b0_0, b0_1, b0_2⟩ := b0.c3
     refine wp_region_noPanic ?_
     refine wp_region_held_drew (S := fun w' => Up w w' ∧ w'.cell? ⟨w.heap.size, 0, none⟩ = some (.bool s) ∧ w'.cell? ⟨w.heap.size, 1, none⟩ = some (.slice A l.length c) ∧ w'.cell? ⟨w.heap.size, 2, none⟩ = some (.slice D m.length d)) (by kernel_rfl) ?_ (fun hHeld => ?_)
     · with_reducible exact ⟨UP, b0_0, b0_1, b0_2⟩
     refine wpAnyH_take (i := 0) (v := ?_) rfl (by kernel_rfl) (by kernel_rfl) (by kernel_rfl) (fun _ _ _ h => h) (Or.inl ⟨by rfl, ?_⟩) (by assumption) ?_
     rotate_left
     · (intro w hSw; (try dsimp only at hSw); go_simp; first | done | with_reducible rfl)
     try simp only [List.getElem_toArray, List.getElem_cons_zero, List.getElem_cons_succ, Act.put, List.setIfInBounds_toArray, List.set_cons_zero, List.set_cons_succ]
     refine wpAnyH_take (i := 2) (v := ?_) rfl (by kernel_rfl) (by kernel_rfl) (by kernel_rfl) (fun _ _ _ h => h) (Or.inl ⟨by rfl, ?_⟩) (by assumption) ?_
     rotate_left
     · (intro w hSw; (try dsimp only at hSw); go_simp; first | done | with_reducible rfl)
     try simp only [List.getElem_toArray, List.getElem_cons_zero, List.getElem_cons_succ, Act.put, List.setIfInBounds_toArray, List.set_cons_zero, List.set_cons_succ]
     refine wpAnyH_ready (rs := [1]) (by kernel_rfl) (by simp) ?_
     refine AllReadyH.cons rfl (fun K hK => ?_) AllReadyH.nil
     go_simp
     (first
       | (go_at_call 24
          ((with_reducible refine (ref9_norm FX (by omega)).mono ?_))
          rintro e W1 ⟨V1, rfl, a, u1⟩
          replace FX := FX.up u1
          replace hl := hl.up u1
          replace hm := hm.up u1
          try (replace a := a.up u1)
          replace b0 := b0.up u1
          replace UP := UP.trans u1
          clear b0_0 b0_1 b0_2
          obtain ⟨b0_0, b0_1, b0_2⟩ := b0.c3
          clear u1
          obtain ⟨Xa, Ya, rfl, a, ad⟩ := a
          obtain ⟨Aa, na, ca, rfl⟩ := a.shape
          obtain ⟨Aad, nad, cad, rfl⟩ := ad.shape))
     try go_wp2_with fail
     try clear hHeld
     refine hK.out _ _ ?_ (fun hHeld => ?_)
     · with_reducible exact ⟨UP, b0_0, b0_1, b0_2⟩
     clear hK K
     try simp only [List.getElem_toArray, List.getElem_cons_zero, List.getElem_cons_succ, Act.put, List.setIfInBounds_toArray, List.set_cons_zero, List.set_cons_succ]
     refine wpAnyH_ready (rs := [3]) (by kernel_rfl) (by simp) ?_
     refine AllReadyH.cons rfl (fun K hK => ?_) AllReadyH.nil
     go_simp
     (first
       | (go_at_call 97
          ((with_reducible refine (ref_same9 a ad hl hm LX1 LX2 (by omega) (by omega)).mono ?_))
          rintro e W2 ⟨rfl, u2⟩
          replace FX := FX.up u2
          replace hl := hl.up u2
          replace hm := hm.up u2
          try (replace a := a.up u2)
          replace b0 := b0.up u2
          replace UP := UP.trans u2
          clear b0_0 b0_1 b0_2
          obtain ⟨b0_0, b0_1, b0_2⟩ := b0.c3
          clear u2
          rw [HB.out]))
     try go_wp2_with fail
     try clear hHeld
     refine hK.out _ _ ?_ (fun hHeld => ?_)
     · with_reducible exact ⟨UP, b0_0, b0_1, b0_2⟩
     clear hK K
     try simp only [List.getElem_toArray, List.getElem_cons_zero, List.getElem_cons_succ, Act.put, List.setIfInBounds_toArray, List.set_cons_zero, List.set_cons_succ]
     refine wpAnyH_take (i := 4) (v := ?_) rfl (by kernel_rfl) (by kernel_rfl) (by kernel_rfl) (fun _ _ _ h => h) (Or.inl ⟨by rfl, ?_⟩) (by assumption) ?_
     rotate_left
     · (intro w hSw; (try dsimp only at hSw); go_simp; first | done | with_reducible rfl)
     try simp only [List.getElem_toArray, List.getElem_cons_zero, List.getElem_cons_succ, Act.put, List.setIfInBounds_toArray, List.set_cons_zero, List.set_cons_succ]
     refine wpAnyH_take (i := 5) (v := ?_) rfl (by kernel_rfl) (by kernel_rfl) (by kernel_rfl) (fun _ _ _ h => h) (Or.inl ⟨by rfl, ?_⟩) (by assumption) ?_
     rotate_left
     · (intro w hSw; (try dsimp only at hSw); go_simp; first | done | with_reducible rfl)
     try simp only [List.getElem_toArray, List.getElem_cons_zero, List.getElem_cons_succ, Act.put, List.setIfInBounds_toArray, List.set_cons_zero, List.set_cons_succ]
     refine wpAnyH_take (i := 6) (v := ?_) rfl (by kernel_rfl) (by kernel_rfl) (by kernel_rfl) (fun _ _ _ h => h) (Or.inl ⟨by rfl, ?_⟩) (by assumption) ?_
     rotate_left
     · (intro w hSw; (try dsimp only at hSw); go_simp; first | done | with_reducible rfl)
     try simp only [List.getElem_toArray, List.getElem_cons_zero, List.getElem_cons_succ, Act.put, List.setIfInBounds_toArray, List.set_cons_zero, List.set_cons_succ]
     refine wpAnyH_ready (rs := [7]) (by kernel_rfl) (by simp) ?_
     refine AllReadyH.cons rfl (fun K hK => ?_) AllReadyH.nil
     go_simp
     (first
       | (go_at_call 136
          ((with_reducible refine (ref9_size hl hm (by omega) (by omega)).mono ?_))
          rintro e W3 ⟨rfl, u3⟩
          replace FX := FX.up u3
          replace hl := hl.up u3
          replace hm := hm.up u3
          try (replace a := a.up u3)
          replace b0 := b0.up u3
          replace UP := UP.trans u3
          clear b0_0 b0_1 b0_2
          obtain ⟨b0_0, b0_1, b0_2⟩ := b0.c3
          clear u3
          rw [HZ.out]))
     try go_wp2_with fail
     try clear hHeld
     refine hK.out _ _ ?_ (fun hHeld => ?_)
     · with_reducible exact ⟨UP, b0_0, b0_1, b0_2⟩
     clear hK K
     try simp only [List.getElem_toArray, List.getElem_cons_zero, List.getElem_cons_succ, Act.put, List.setIfInBounds_toArray, List.set_cons_zero, List.set_cons_succ]
     refine wpAnyH_take (i := 8) (v := ?_) rfl (by kernel_rfl) (by kernel_rfl) (by kernel_rfl) (fun _ _ _ h => h) (Or.inl ⟨by rfl, ?_⟩) (by assumption) ?_
     rotate_left
     · (intro w hSw; (try dsimp only at hSw); go_simp; first | done | with_reducible rfl)
     try simp only [List.getElem_toArray, List.getElem_cons_zero, List.getElem_cons_succ, Act.put, List.setIfInBounds_toArray, List.set_cons_zero, List.set_cons_succ]
     refine wpAnyH_take (i := 9) (v := ?_) rfl (by kernel_rfl) (by kernel_rfl) (by kernel_rfl) (fun _ _ _ h => h) (Or.inl ⟨by rfl, ?_⟩) (by assumption) ?_
     rotate_left
     · (intro w hSw; (try dsimp only at hSw); go_simp; first | done | with_reducible rfl)
     try simp only [List.getElem_toArray, List.getElem_cons_zero, List.getElem_cons_succ, Act.put, List.setIfInBounds_toArray, List.set_cons_zero, List.set_cons_succ]
     refine wpAnyH_take (i := 10) (v := ?_) rfl (by kernel_rfl) (by kernel_rfl) (by kernel_rfl) (fun _ _ _ h => h) (Or.inl ⟨by rfl, ?_⟩) (by assumption) ?_
     rotate_left
     · (intro w hSw; (try dsimp only at hSw); go_simp; first | done | with_reducible rfl)
     try simp only [List.getElem_toArray, List.getElem_cons_zero, List.getElem_cons_succ, Act.put, List.setIfInBounds_toArray, List.set_cons_zero, List.set_cons_succ]
     refine wpAnyH_done (by kernel_rfl) ?_ _
     refine NoPanic.normal ?_
     clear hHeld
     go_wp2
     go_ret
     exact ⟨by simp [hz], UP⟩
end Go.Proofs.YtmmcffceeahemaaGreat
