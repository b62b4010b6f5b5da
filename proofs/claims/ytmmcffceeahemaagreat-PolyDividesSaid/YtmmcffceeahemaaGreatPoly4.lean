/-
  Layer 14: a polynomial's derivative.
-/
import Derived.Test.YtmmcffceeahemaaGreatPoly3
import Derived.Deep.RegionLaw
set_option linter.unusedVariables false
set_option linter.unusedSimpArgs false
namespace Pq
/-- Each one so many times as its place says. -/
def dfl : Nat → List Rat → List Rat
 | _, [] => []
 | k, a :: p => (k : Rat) * a :: dfl (k + 1) p
theorem dfl_len : ∀ (p : List Rat) (k : Nat), (dfl k p).length = p.length
 | [], _ => rfl
 | a :: p, k => by simp [dfl, dfl_len p]
theorem dfl_snoc : ∀ (p : List Rat) (k : Nat) (b : Rat), dfl k (p ++ [b]) = dfl k p ++ [((k + p.length : Nat) : Rat) * b]
 | [], k, b => by simp [dfl]
 | a :: p, k, b => by
   simp only [List.cons_append, dfl, dfl_snoc p (k + 1) b, List.length_cons]
   rw [show k + 1 + p.length = k + (p.length + 1) by omega]
theorem E_dfl : ∀ (p : List Rat) (k : Nat) (x : Rat), E (dfl k p) x = (k : Rat) * E p x + x * D p x
 | [], k, x => by
   simp only [dfl, E, D, Rat.mul_zero]
   exact (Rat.add_zero 0).symm
 | a :: p, k, x => by
   show (k : Rat) * a + x * E (dfl (k + 1) p) x = (k : Rat) * (a + x * E p x) + x * (E p x + x * D p x)
   rw [E_dfl p (k + 1) x]
   have : ((k + 1 : Nat) : Rat) = (k : Rat) + 1 := by push_cast; rfl
   rw [this]
   grind
/-- The derivative. -/
def df (p : List Rat) : List Rat := dfl 1 p.tail
theorem E_df (p : List Rat) (x : Rat) : E (df p) x = D p x := by
 unfold df
 rw [E_dfl]
 cases p with
 | nil =>
   simp only [List.tail_nil, E, D, Rat.mul_zero]
   exact Rat.add_zero 0
 | cons a p =>
   show ((1 : Nat) : Rat) * E p x + x * D p x = E p x + x * D p x
   have : ((1 : Nat) : Rat) = 1 := rfl
   rw [this, Rat.one_mul]
theorem df_len (p : List Rat) : (df p).length = p.length - 1 := by unfold df; rw [dfl_len, List.length_tail]
theorem df_step {p : List Rat} {j : Nat} (h : j + 1 < p.length) : dfl 1 (p.tail.take (j + 1)) = dfl 1 (p.tail.take j) ++ [(((j : Int) + 1 : Int) : Rat) * p[j + 1]] := by
 have hj : j < p.tail.length := by rw [List.length_tail]; omega
 rw [List.take_succ_eq_append_getElem hj, dfl_snoc, List.length_take, Nat.min_eq_left (by omega), List.getElem_tail]
 have : (((j : Int) + 1 : Int) : Rat) = ((1 + j : Nat) : Rat) := by rw [show (j : Int) + 1 = ((1 + j : Nat) : Int) by omega]; rfl
 rw [this]
end Pq
namespace Go.Proofs.YtmmcffceeahemaaGreat
open Go.RowKit

set_option maxRecDepth 100000 in
set_option maxHeartbeats 6400000 in
theorem poly_diff {v : Value} {qs : List Rat} {ka : Nat} {w : World} (h : Sq (Frk ka) w v qs) (hl : qs.length ≤ 100000000) (hka : ka ≤ 4000000) : Calls Tryz.prog 44 #[v] w (RetP (ka + 4) (Pq.nm (Pq.df qs)) w) := by
 obtain ⟨A, cv, rfl⟩ := h.form
 have LA := Lib.hid (sq_lq h)
 have H := Lib.hid h
 clear h
 go_enter Tryz.func44, Tryz.ntmps44
 go_wp2_with fail
 go_loopw [3, 4] (fun s3 s4 wr => ∃ j : Nat, s4 = .int .i64 ((j : Int) + 1) ∧ j ≤ qs.length - 1 ∧ PRow (ka + 2) w wr s3 (Pq.dfl 1 (qs.tail.take j)) ∧ Up w wr) (fun _ s4 _ => qs.length - (intOf s4).toNat)
 case atStart => exact ⟨0, rfl, Nat.zero_le _, OwnQ.nil _ _ _ _, Up.refl w⟩
 case round =>
  obtain ⟨j, rfl, hj, MR, UP⟩ := hrel
  by_cases hlt : j + 1 < qs.length
  · obtain ⟨b, o, s, B, m0, f, D, n', f', e0, hb, g1, g2, g3, FX0⟩ := H.out.at_ (kp_fr ka) hlt
    subst e0
    have HTK : Hid _ := Lib.hid (Pq.df_step hlt)
    have HTL : Hid ((Pq.dfl 1 (qs.tail.take j)).length = j) := Lib.hid (by rw [Pq.dfl_len, List.length_take, List.length_tail]; omega)
    have LQ := LA.out qs[j + 1] (List.getElem_mem hlt)
    generalize qs[j + 1] = q at *
    have FX0 : Fr w (.agg #[.bool s, .slice B m0 f, .slice D n' f']) q ka := FX0
    have FX := FX0.up UP
    have HOLD : Hid (∀ w', Up w w' → w'.cell? ⟨b, o + (j + 1) * 3, none⟩ = some (.bool s) ∧ w'.cell? ⟨b, o + (j + 1) * 3 + 1, none⟩ = some (.slice B m0 f) ∧ w'.cell? ⟨b, o + (j + 1) * 3 + 2, none⟩ = some (.slice D n' f')) := Lib.hid (fun w' hu => ⟨(hu.cell (p := ⟨b, o + (j + 1) * 3, none⟩) hb).trans g1, (hu.cell (p := ⟨b, o + (j + 1) * 3 + 1, none⟩) hb).trans g2, (hu.cell (p := ⟨b, o + (j + 1) * 3 + 2, none⟩) hb).trans g3⟩)
    clear g1 g2 g3 FX0
    obtain ⟨C7, c7, rfl⟩ := MR.form
    rw [HTL.out] at MR ⊢
    have k1 : (j : Int) + 1 < (qs.length : Int) := by omega
    have k0 : (0 : Int) ≤ (j : Int) + 1 := by omega
    have kk : ((j : Int) + 1).toNat = j + 1 := by omega
    go_wp2_with fail
    replace MR := MR.up (Up.refl wr).drew
    replace FX := FX.up (Up.refl wr).drew
    replace UP := UP.trans (Up.refl wr).drew
    refine wp_region_noPanic ?_
    refine wp_region_held_drew (S := fun w' => Up w w' ∧ w'.cell? ⟨b, o + (j + 1) * 3, none⟩ = some (.bool s) ∧ w'.cell? ⟨b, o + (j + 1) * 3 + 1, none⟩ = some (.slice B m0 f) ∧ w'.cell? ⟨b, o + (j + 1) * 3 + 2, none⟩ = some (.slice D n' f')) (by kernel_rfl) (by exact ⟨UP, HOLD.out _ UP⟩) (fun hHeld => ?_)
    generalize wr.drew = W0 at *
    refine wpAnyH_take (i := 0) (v := ?_) rfl (by kernel_rfl) (by decide +kernel) (by decide +kernel) (fun _ _ _ h => h) (Or.inl ⟨by rfl, ?_⟩) (by assumption) ?_
    rotate_left
    · (intro w hSw; (try dsimp only at hSw); go_simp; first | done | with_reducible rfl)
    try simp only [List.getElem_toArray, List.getElem_cons_zero, List.getElem_cons_succ, Act.put, List.setIfInBounds_toArray, List.set_cons_zero, List.set_cons_succ]
    refine wpAnyH_take (i := 1) (v := ?_) rfl (by kernel_rfl) (by decide +kernel) (by decide +kernel) (fun _ _ _ h => h) (Or.inl ⟨by rfl, ?_⟩) (by assumption) ?_
    rotate_left
    · (intro w hSw; (try dsimp only at hSw); go_simp; first | done | with_reducible rfl)
    try simp only [List.getElem_toArray, List.getElem_cons_zero, List.getElem_cons_succ, Act.put, List.setIfInBounds_toArray, List.set_cons_zero, List.set_cons_succ]
    refine wpAnyH_take (i := 3) (v := ?_) rfl (by kernel_rfl) (by decide +kernel) (by decide +kernel) (fun _ _ _ h => h) (Or.inl ⟨by rfl, ?_⟩) (by assumption) ?_
    rotate_left
    · (intro w hSw; (try dsimp only at hSw); go_simp; first | done | with_reducible rfl)
    try simp only [List.getElem_toArray, List.getElem_cons_zero, List.getElem_cons_succ, Act.put, List.setIfInBounds_toArray, List.set_cons_zero, List.set_cons_succ]
    refine wpAnyH_take (i := 4) (v := ?_) rfl (by kernel_rfl) (by decide +kernel) (by decide +kernel) (fun _ _ _ h => h) (Or.inl ⟨by rfl, ?_⟩) (by assumption) ?_
    rotate_left
    · (intro w hSw; (try dsimp only at hSw); go_simp; first | done | with_reducible rfl)
    try simp only [List.getElem_toArray, List.getElem_cons_zero, List.getElem_cons_succ, Act.put, List.setIfInBounds_toArray, List.set_cons_zero, List.set_cons_succ]
    refine wpAnyH_take (i := 5) (v := ?_) rfl (by kernel_rfl) (by decide +kernel) (by decide +kernel) (fun _ _ _ h => h) (Or.inl ⟨by rfl, ?_⟩) (by assumption) ?_
    rotate_left
    · (intro w hSw; (try dsimp only at hSw); go_simp; first | done | with_reducible rfl)
    try simp only [List.getElem_toArray, List.getElem_cons_zero, List.getElem_cons_succ, Act.put, List.setIfInBounds_toArray, List.set_cons_zero, List.set_cons_succ]
    refine wpAnyH_take (i := 6) (v := ?_) rfl (by kernel_rfl) (by decide +kernel) (by decide +kernel) (fun _ _ _ h => h) (Or.inl ⟨by rfl, ?_⟩) (by assumption) ?_
    rotate_left
    · (intro w hSw; (try dsimp only at hSw); go_simp; first | done | with_reducible rfl)
    try simp only [List.getElem_toArray, List.getElem_cons_zero, List.getElem_cons_succ, Act.put, List.setIfInBounds_toArray, List.set_cons_zero, List.set_cons_succ]
    refine wpAnyH_ready (rs := [2]) (by decide +kernel) (by simp) ?_
    refine AllReadyH.cons rfl (fun K hK => ?_) AllReadyH.nil
    clear hHeld
    go_simp
    go_at_call 90
    refine (frac_of (n := (j : Int) + 1) (by omega) _).mono ?_
    rintro e W1 ⟨V1, rfl, y, u1⟩
    replace MR := MR.up u1
    replace FX := FX.up u1
    replace UP := UP.trans u1
    clear u1
    have LY := lq_int (n := (j : Int) + 1) (by omega)
    obtain ⟨Y, HY⟩ : ∃ Y, Hid ((((j : Int) + 1 : Int) : Rat) = Y) := ⟨_, Lib.hid rfl⟩
    rw [HY.out] at y LY HTK
    obtain ⟨Xy, Yy, rfl, y, yd⟩ := y
    obtain ⟨Ay, ny, cy, rfl⟩ := y.shape
    obtain ⟨Ayd, nyd, cyd, rfl⟩ := yd.shape
    try go_wp2_with fail
    refine hK.out _ _ (by exact ⟨UP, HOLD.out _ UP⟩) (fun hHeld => ?_)
    clear hK K
    try simp only [List.getElem_toArray, List.getElem_cons_zero, List.getElem_cons_succ, Act.put, List.setIfInBounds_toArray, List.set_cons_zero, List.set_cons_succ]
    refine wpAnyH_ready (rs := [7]) (by decide +kernel) (by simp) ?_
    refine AllReadyH.cons rfl (fun K hK => ?_) AllReadyH.nil
    clear hHeld
    go_simp
    go_at_call 110
    refine (frac_mul ((qw_of y yd).fr LY) FX (by omega) (by omega)).mono ?_
    rintro e W2 ⟨V2, rfl, z, u2⟩
    replace MR := MR.up u2
    replace UP := UP.trans u2
    clear u2 y yd FX
    have LZ : Wd.Lq (Y * q) (ka + 2) := (LY.mul LQ).mono (by omega)
    obtain ⟨Z, HZ⟩ : ∃ Z, Hid (Y * q = Z) := ⟨_, Lib.hid rfl⟩
    rw [HZ.out] at z LZ HTK
    obtain ⟨Xz, Yz, rfl, z, zd⟩ := z
    obtain ⟨Az, nz, cz, rfl⟩ := z.shape
    obtain ⟨Azd, nzd, czd, rfl⟩ := zd.shape
    try go_wp2_with fail
    refine hK.out _ _ (by exact ⟨UP, HOLD.out _ UP⟩) (fun hHeld => ?_)
    clear hK K
    try simp only [List.getElem_toArray, List.getElem_cons_zero, List.getElem_cons_succ, Act.put, List.setIfInBounds_toArray, List.set_cons_zero, List.set_cons_succ]
    refine wpAnyH_ready (rs := [8]) (by decide +kernel) (by simp) ?_
    refine AllReadyH.cons rfl (fun K hK => ?_) AllReadyH.nil
    clear hHeld
    go_simp
    have hblk := heap_alloc_new W2 (.cells #[.bool (Wd.ngb Z.num), .slice Az nz cz, .slice Azd nzd czd] 34)
    have HQ := Lib.hid (show Qk (ka + 2) (W2.alloc (.cells #[.bool (Wd.ngb Z.num), .slice Az nz cz, .slice Azd nzd czd] 34)) (.agg #[.bool (Wd.ngb Z.num), .slice Az nz cz, .slice Azd nzd czd]) Z from ⟨Qw.up ⟨_, _, rfl, z, zd⟩ ((Up.refl W2).alloc _), LZ⟩)
    replace MR := MR.up ((Up.refl W2).alloc (.cells #[.bool (Wd.ngb Z.num), .slice Az nz cz, .slice Azd nzd czd] 34))
    replace UP := UP.alloc (.cells #[.bool (Wd.ngb Z.num), .slice Az nz cz, .slice Azd nzd czd] 34)
    generalize W2.alloc (.cells #[.bool (Wd.ngb Z.num), .slice Az nz cz, .slice Azd nzd czd] 34) = W3 at *
    generalize W2.heap.size = g3 at *
    refine hK.out _ _ (by exact ⟨UP, HOLD.out _ UP⟩) (fun hHeld => ?_)
    clear hK K
    try simp only [List.getElem_toArray, List.getElem_cons_zero, List.getElem_cons_succ, Act.put, List.setIfInBounds_toArray, List.set_cons_zero, List.set_cons_succ]
    refine wpAnyH_ready (rs := [9]) (by decide +kernel) (by simp) ?_
    refine AllReadyH.cons rfl (fun K hK => ?_) AllReadyH.nil
    clear hHeld
    refine step_append_q (kp_qk _) Tryz.underlying49 info_frac (w0 := w) (by rfl) _ _ (by rfl) (by rfl) MR UP (by rfl) hblk HQ.out (by rw [HTL.out]; omega) ?_
    intro V8 W8 MR8 K8 G8 UP8
    rw [← HTK.out] at MR8
    refine hK.out _ _ (by exact ⟨UP8, HOLD.out _ UP8⟩) (fun hHeld => ?_)
    clear hK K
    try simp only [List.getElem_toArray, List.getElem_cons_zero, List.getElem_cons_succ, Act.put, List.setIfInBounds_toArray, List.set_cons_zero, List.set_cons_succ]
    refine wpAnyH_take (i := 10) (v := ?_) rfl (by kernel_rfl) (by decide +kernel) (by decide +kernel) (fun _ _ _ h => h) (Or.inl ⟨by rfl, ?_⟩) (by assumption) ?_
    rotate_left
    · (intro w hSw; (try dsimp only at hSw); go_simp; first | done | with_reducible rfl)
    try simp only [List.getElem_toArray, List.getElem_cons_zero, List.getElem_cons_succ, Act.put, List.setIfInBounds_toArray, List.set_cons_zero, List.set_cons_succ]
    refine wpAnyH_done (by decide +kernel) (NoPanic.normal ?_) _
    clear hHeld hblk
    go_wp2
    go_roundw
    case rel => exact ⟨j + 1, by go_num, by omega, MR8, UP8⟩
    case measure => simp [intOf]; omega
  · have HDF : Hid (Pq.dfl 1 (qs.tail.take j) = Pq.df qs) := Lib.hid (by unfold Pq.df; rw [List.take_of_length_le]; rw [List.length_tail]; omega)
    rw [HDF.out] at MR
    have k1 : ¬ (j : Int) + 1 < (qs.length : Int) := by omega
    have hd1 : (Pq.df qs).length ≤ 100000000 := by rw [Pq.df_len]; omega
    obtain ⟨C7, c7, rfl⟩ := MR.form
    go_wp2_with fail
    refine (poly_norm MR.fr hd1 (by omega)).mono ?_
    rintro e W4 ⟨V4, rfl, R, u4⟩
    go_wp2
    go_ret
    exact ⟨_, rfl, R.weaken UP, UP.trans u4⟩
end Go.Proofs.YtmmcffceeahemaaGreat
