/-
  Layer 17: a field's expressions and how many nodes it has, as the program has them.
-/
import Derived.Test.YtmmcffceeahemaaSize
set_option linter.unusedVariables false
set_option linter.unusedSimpArgs false
namespace Go.Proofs.Ytmmcffceeahemaa
open Go.RowKit

theorem Row.weaken {T : TypeId} {w0 w1 w : World} {v : Value} {l : List Tr.Nd} (h : Row False T w1 w v l) (hu : Up w0 w1) : Row False T w0 w v l := by
  obtain ⟨h0, h1, us, hn, hown⟩ := h
  exact ⟨h0, hu.trans h1, us, ⟨hn.1, fun j x u a b => (hn.2 j x u a b).elim (fun h => h.1.elim) (fun h => .inr ⟨own_weaken h.1 hu.size, h.2⟩)⟩, own_weaken hown hu.size⟩

set_option maxRecDepth 100000 in
set_option maxHeartbeats 3200000 in
theorem tree_codes {v : Value} {F : Tr.Fd} {w : World} (h : Fld w v F) (hs : F.Small 12 100 10) :
    Calls Try.prog 17 #[v] w fun e w' => ∃ V, e = .returned V ∧ Ndss w' V F.codes ∧ Up w w' := by
  obtain ⟨a, b, rfl, ha, hb⟩ := h
  obtain ⟨A, c, rfl⟩ := ha.form
  obtain ⟨B, d, rfl⟩ := hb.form
  obtain ⟨L, O⟩ := F
  obtain ⟨hl, hm, hs1, hs2⟩ := hs
  simp only at ha hb hl hm hs1 hs2 ⊢
  have HS1 := Lib.hid hs1
  have HS2 := Lib.hid hs2
  have hA := Lib.hid (ha.up ((Up.refl w).alloc (.cells #[.slice A L.length c, .slice B O.length d] 31)))
  have hB := Lib.hid (hb.up ((Up.refl w).alloc (.cells #[.slice A L.length c, .slice B O.length d] 31)))
  have u0 : Up w (w.alloc (.cells #[.slice A L.length c, .slice B O.length d] 31)) := (Up.refl w).alloc _
  have c0 : (w.alloc (.cells #[.slice A L.length c, .slice B O.length d] 31)).cell? ⟨w.heap.size, 0, none⟩ = some (.slice A L.length c) := by rw [cell_of_row _ _ _ _ _ (0, 0) (heap_alloc_new w _)]; rfl
  have c1 : (w.alloc (.cells #[.slice A L.length c, .slice B O.length d] 31)).cell? ⟨w.heap.size, 1, none⟩ = some (.slice B O.length d) := by rw [cell_of_row _ _ _ _ _ (0, 0) (heap_alloc_new w _)]; rfl
  have hcodes : (Tr.Fd.mk L O).codes = L.map (·.2) ++ O := rfl
  have HCO := Lib.hid hcodes
  clear ha hb hs1 hs2 hcodes
  go_enter Try.func17, Try.ntmps17
  go_wp2
  generalize w.alloc (.cells #[.slice A L.length c, .slice B O.length d] 31) = W at *
  have C1 := Lib.hid c1
  have hz := World.block_lt_of_cell? W _ c0
  clear c0 c1
  go_loopw [3, 5, 11] (fun s3 _ s11 wr => ∃ k : Nat, s11 = .int .i64 k ∧ k ≤ L.length ∧ RowS False 38 135 W wr s3 ((L.take k).map (·.2))) (fun _ _ s11 _ => L.length - (intOf s11).toNat)
  case atStart => exact ⟨0, rfl, Nat.zero_le _, RowS.none_ _ _ _⟩
  case round =>
    obtain ⟨k, rfl, hk, hrow⟩ := hrel
    by_cases hlt : k < L.length
    · obtain ⟨b, o, u, rfl, hb, g1, g2, g3⟩ := hA.out.at_ hlt
      have g1 := (hrow.world.cell (p := ⟨b, o + k * 2, none⟩) hb).trans g1
      have g2 := (hrow.world.cell (p := ⟨b, o + k * 2 + 1, none⟩) hb).trans g2
      have HTK : Hid ((L.take (k + 1)).map (·.2) = (L.take k).map (·.2) ++ [L[k].2]) := Lib.hid (by rw [List.take_succ_eq_append_getElem hlt, List.map_append]; rfl)
      have HLEN : Hid (((L.take k).map (·.2)).length = k) := Lib.hid (by rw [List.length_map, List.length_take]; omega)
      have HSX := Lib.hid (HS1.out L[k] (List.getElem_mem hlt)).2
      generalize L[k].2 = x at *
      generalize L[k].1 = nm at *
      obtain ⟨C, e, rfl⟩ := g3.form
      have hup := hrow.world
      have G3 := Lib.hid g3
      clear g3
      go_wp2_with fail
      refine (tree_copied (G3.out.up (hup.alloc _)) (Nat.le_trans HSX.out.1 (by omega)) (fun y hy => Nat.le_trans (HSX.out.2 y hy) (by omega))).mono ?_
      rintro e2 w2 ⟨v2, rfl, r2⟩
      have hrow2 := (hrow.up ((Up.refl wr).alloc _)).up r2.world
      have r3 := r2.weaken (hup.alloc _)
      obtain ⟨C2, e2, rfl⟩ := r3.form
      clear r2 g1 g2 hrow hup
      go_wp2_with (at_builtin; refine wl_append_st rfl (.tmp 15) (.tmp 19) rfl rfl (hrow2.up ((Up.refl _).alloc _)) (ks := [x]) (vs := [.slice C2 x.length e2]) rfl (one_new w2 _ _) (ElB.one_own (r3.up ((Up.refl _).alloc _))) rfl (by have := HLEN.out; omega) ?_; intro v' w' h')
      rw [← HTK.out] at h'
      refine ⟨⟨k + 1, by go_num, by omega, h'⟩, by simp [intOf]; omega⟩
    · obtain rfl : k = L.length := by omega
      rw [List.take_length] at hrow
      have c1 := (hrow.world.cell (p := ⟨w.heap.size, 1, none⟩) hz).trans C1.out
      have HR := Lib.hid hrow
      clear hrow
      go_wp2
      go_loopw [3, 7, 25] (fun s3 _ s25 wr2 => ∃ k : Nat, s25 = .int .i64 k ∧ k ≤ O.length ∧ RowS False 38 135 W wr2 s3 (L.map (·.2) ++ O.take k)) (fun _ _ s25 _ => O.length - (intOf s25).toNat)
      case atStart => exact ⟨0, rfl, Nat.zero_le _, by rw [List.take_zero, List.append_nil]; exact HR.out⟩
      case round =>
        obtain ⟨k, rfl, hk, hrow⟩ := hrel
        by_cases hlt : k < O.length
        · obtain ⟨b, o, u, rfl, hb, g1, g3⟩ := hB.out.at_ hlt
          have g1 := (hrow.world.cell (p := ⟨b, o + k, none⟩) hb).trans g1
          have HTK : Hid (L.map (·.2) ++ O.take (k + 1) = L.map (·.2) ++ O.take k ++ [O[k]]) := Lib.hid (by rw [List.take_succ_eq_append_getElem hlt, List.append_assoc])
          have HLEN : Hid ((L.map (·.2) ++ O.take k).length ≤ 24) := Lib.hid (by rw [List.length_append, List.length_map, List.length_take]; omega)
          have HSX := Lib.hid (HS2.out O[k] (List.getElem_mem hlt))
          generalize O[k] = x at *
          obtain ⟨C, e, rfl⟩ := g3.form
          have hup := hrow.world
          have G3 := Lib.hid g3
          clear g3
          go_wp2_with fail
          refine (tree_copied (G3.out.up hup) (Nat.le_trans HSX.out.1 (by omega)) (fun y hy => Nat.le_trans (HSX.out.2 y hy) (by omega))).mono ?_
          rintro e2 w2 ⟨v2, rfl, r2⟩
          have hrow2 := hrow.up r2.world
          have r3 := r2.weaken hup
          obtain ⟨C2, e2, rfl⟩ := r3.form
          clear r2 g1 hrow hup
          go_wp2_with (at_builtin; refine wl_append_st rfl (.tmp 29) (.tmp 32) rfl rfl (hrow2.up ((Up.refl _).alloc _)) (ks := [x]) (vs := [.slice C2 x.length e2]) rfl (one_new w2 _ _) (ElB.one_own (r3.up ((Up.refl _).alloc _))) rfl (by have := HLEN.out; omega) ?_; intro v' w' h')
          rw [← HTK.out] at h'
          refine ⟨⟨k + 1, by go_num, by omega, h'⟩, by simp [intOf]; omega⟩
        · obtain rfl : k = O.length := by omega
          rw [List.take_length] at hrow
          go_wp2
          go_ret
          exact ⟨_, rfl, hrow.ndss, u0.trans hrow.world⟩
set_option maxRecDepth 100000 in
set_option maxHeartbeats 3200000 in
theorem tree_size {v : Value} {F : Tr.Fd} {w : World} (h : Fld w v F) (hs : F.Small 12 100 10) :
    Calls Try.prog 21 #[v] w fun e w' => e = .returned (.int .i64 (Tr.sumL F.codes : Nat)) ∧ Up w w' := by
  obtain ⟨hc1, hc2⟩ := hs.codes
  have HC2 := Lib.hid (fun k => Nat.le_trans (Tr.sumL_le (ls := F.codes.take k) (m := 100) (fun l hl => (hc2 l (List.mem_of_mem_take hl)).1)) (Nat.mul_le_mul_right 100 (show (F.codes.take k).length ≤ 24 by rw [List.length_take]; omega)))
  have HS := Lib.hid hs
  clear hc2 hs
  have h0 := h
  obtain ⟨a, b, rfl, ha, hb⟩ := h
  obtain ⟨A, c, rfl⟩ := ha.form
  obtain ⟨B, d, rfl⟩ := hb.form
  have u0 : Up w (w.alloc (.cells #[.slice A F.lets.length c, .slice B F.outs.length d] 31)) := (Up.refl w).alloc _
  clear ha hb
  go_enter Try.func21, Try.ntmps21
  go_wp2_with fail
  refine (tree_codes (h0.up u0) HS.out).mono ?_
  rintro e W ⟨V, rfl, hv, u1⟩
  have u2 := u0.trans u1
  clear u0 u1 h0
  obtain ⟨D, n, rfl⟩ := hv.form
  obtain ⟨ls, hls⟩ : ∃ ls, F.codes = ls := ⟨_, rfl⟩
  rw [hls] at hc1 hv
  have HLS := Lib.hid hls
  have HC3 : Hid (∀ k, Tr.sumL (ls.take k) ≤ 24 * 100) := Lib.hid (by rw [← hls]; exact HC2.out)
  rw [hls]
  clear hls HC2
  have HV := Lib.hid hv
  clear hv
  go_wp2
  go_loop [3, 5, 9] (fun s3 _ s9 => ∃ k : Nat, s9 = .int .i64 k ∧ s3 = .int .i64 ((Tr.sumL (ls.take k) : Nat) : Int) ∧ k ≤ ls.length) (fun _ _ s9 => ls.length - (intOf s9).toNat)
  case atStart => exact ⟨0, rfl, rfl, Nat.zero_le _⟩
  case round =>
    obtain ⟨k, rfl, rfl, hk⟩ := hrel
    by_cases hlt : k < ls.length
    · obtain ⟨b, o, u, rfl, hb, g1, g2⟩ := HV.out.at_ hlt
      have HT := Lib.hid (Tr.sumL_take hlt)
      have b1 := HC3.out k
      have b2 := HC3.out (k + 1)
      rw [HT.out] at b2
      generalize Tr.sumL (ls.take k) = S at *
      obtain ⟨C, e, rfl⟩ := g2.form
      generalize ls[k].length = N at *
      go_wp2
      go_round
      case rel => exact ⟨k + 1, by go_num, by rw [HT.out]; rfl, by omega⟩
      case measure => simp [intOf]; omega
    · obtain rfl : k = ls.length := by omega
      rw [List.take_length]
      have hb := HC3.out ls.length
      rw [List.take_length] at hb
      go_wp2
      go_ret
      exact ⟨by rw [HLS.out]; rfl, u2⟩
end Go.Proofs.Ytmmcffceeahemaa
