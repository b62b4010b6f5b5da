/-
  Layer 17: fields compared, as the program does it.
-/
import Derived.Test.YtmmcffceeahemaaSameField
set_option linter.unusedVariables false
set_option linter.unusedSimpArgs false
namespace Go.Proofs.Ytmmcffceeahemaa
open Go.RowKit


set_option maxRecDepth 100000 in
set_option maxHeartbeats 6400000 in
theorem tree_sameField {v u : Value} {F G : Tr.Fd} {w : World} (h : Fld w v F) (k : Fld w u G) (hs : F.Small 12 100 10) (ht : G.Small 12 100 10) :
    Calls Try.prog 23 #[v, u] w fun e w' => e = .returned (.bool (F.same G)) ∧ Up w w' := by
  obtain ⟨a, b, rfl, ha, hb⟩ := h
  obtain ⟨a', b', rfl, ha', hb'⟩ := k
  obtain ⟨A, c, rfl⟩ := ha.form
  obtain ⟨B, d, rfl⟩ := hb.form
  obtain ⟨A', c', rfl⟩ := ha'.form
  obtain ⟨B', d', rfl⟩ := hb'.form
  have FF : Hid (Fld w (.agg #[.slice A F.lets.length c, .slice B F.outs.length d]) F) := Lib.hid ⟨_, _, rfl, ha, hb⟩
  have GG : Hid (Fld w (.agg #[.slice A' G.lets.length c', .slice B' G.outs.length d']) G) := Lib.hid ⟨_, _, rfl, ha', hb'⟩
  have HS := Lib.hid hs
  have HT := Lib.hid ht
  obtain ⟨hl1, hm1, _, _⟩ := hs
  obtain ⟨hl2, hm2, _, _⟩ := ht
  have u0 : Up w ((w.alloc (.cells #[.slice A F.lets.length c, .slice B F.outs.length d] 31)).alloc (.cells #[.slice A' G.lets.length c', .slice B' G.outs.length d'] 31)) := ((Up.refl w).alloc _).alloc _
  have q := two_new w (.cells #[.slice A F.lets.length c, .slice B F.outs.length d] 31) (.cells #[.slice A' G.lets.length c', .slice B' G.outs.length d'] 31)
  by_cases h1 : F.lets.length = G.lets.length
  rotate_left
  · have HF : Hid (F.same G = false) := Lib.hid (by unfold Tr.Fd.same; rw [Tr.all2_len h1]; rfl)
    have h12 : ((F.lets.length : Int) != (G.lets.length : Int)) = true := by simp; omega
    clear q
    go_enter Try.func23, Try.ntmps23
    go_wp2
    go_ret
    exact ⟨by rw [HF.out]; rfl, u0⟩
  by_cases h2 : F.outs.length = G.outs.length
  rotate_left
  · have HF : Hid (F.same G = false) := Lib.hid (by unfold Tr.Fd.same; rw [Tr.all2_len (l := F.outs) h2]; simp)
    have h12 : ((F.lets.length : Int) != (G.lets.length : Int)) = false := by simp; omega
    have h22 : ((F.outs.length : Int) != (G.outs.length : Int)) = true := by simp; omega
    clear q
    have H1 := Lib.hid h1
    clear h1
    go_enter Try.func23, Try.ntmps23
    go_wp2
    go_ret
    exact ⟨by rw [HF.out]; rfl, u0⟩
  have H1 := Lib.hid h1
  have H2 := Lib.hid h2
  have HA := Lib.hid ha
  have HB := Lib.hid hb
  have HA' := Lib.hid ha'
  have HB' := Lib.hid hb'
  obtain ⟨NL, hNL⟩ : ∃ n, n = F.lets.length := ⟨_, rfl⟩
  obtain ⟨NO, hNO⟩ : ∃ n, n = F.outs.length := ⟨_, rfl⟩
  have HNL := Lib.hid hNL
  have HNO := Lib.hid hNO
  rw [← h1, ← h2, ← hNL, ← hNO] at q u0 ⊢
  rw [← hNL] at hl1
  rw [← hNO] at hm1
  clear ha hb ha' hb' h1 h2 hl2 hm2 hNL hNO
  go_enter Try.func23, Try.ntmps23
  go_wp2
  generalize (w.alloc (.cells #[.slice A NL c, .slice B NO d] 31)).alloc (.cells #[.slice A' NL c', .slice B' NO d'] 31) = W at *
  obtain ⟨q1, q2⟩ := q
  have hz : w.heap.size + 1 < W.heap.size := (Array.getElem?_eq_some_iff.1 q2).1
  have a0 : W.cell? ⟨w.heap.size, 0, none⟩ = some (.slice A NL c) := by rw [cell_of_row _ _ _ _ _ (0, 0) q1]; rfl
  have a1 : W.cell? ⟨w.heap.size, 1, none⟩ = some (.slice B NO d) := by rw [cell_of_row _ _ _ _ _ (0, 0) q1]; rfl
  have b0 : W.cell? ⟨w.heap.size + 1, 0, none⟩ = some (.slice A' NL c') := by rw [cell_of_row _ _ _ _ _ (0, 0) q2]; rfl
  have b1 : W.cell? ⟨w.heap.size + 1, 1, none⟩ = some (.slice B' NO d') := by rw [cell_of_row _ _ _ _ _ (0, 0) q2]; rfl
  clear q1 q2
  have A1 := Lib.hid a1
  have B0 := Lib.hid b0
  have B1 := Lib.hid b1
  clear a0 a1 b0 b1
  go_loopw [5, 6, 28] (fun _ _ s28 wr => ∃ k : Nat, s28 = .int .i64 k ∧ k ≤ NL ∧ Up W wr ∧ Hid (Tr.all2 (fun x y => Tr.nameB x y && Tr.sameL x.2 y.2) (F.lets.drop k) (G.lets.drop k) = Tr.all2 (fun x y => Tr.nameB x y && Tr.sameL x.2 y.2) F.lets G.lets)) (fun _ _ s28 _ => NL - (intOf s28).toNat)
  case atStart => exact ⟨0, rfl, Nat.zero_le _, Up.refl _, Lib.hid rfl⟩
  case round =>
    obtain ⟨k, rfl, hk, hup, HG⟩ := hrel
    have b0 := (hup.cell (p := ⟨w.heap.size + 1, 0, none⟩) hz).trans B0.out
    have gr := u0.trans hup
    by_cases hlt : k < NL
    · have hlt1 : k < F.lets.length := by rw [← HNL.out]; exact hlt
      have hlt2 : k < G.lets.length := by rw [← H1.out]; exact hlt1
      obtain ⟨b, o, u, rfl, hb, g1, g2, g3⟩ := HA.out.at_ hlt1
      obtain ⟨b', o', u', rfl, hb', g1', g2', g3'⟩ := HA'.out.at_ hlt2
      have g1 := (gr.cell (p := ⟨b, o + k * 2, none⟩) hb).trans g1
      have g1' := (gr.cell (p := ⟨b', o' + k * 2, none⟩) hb').trans g1'
      have g2 := (gr.cell (p := ⟨b, o + k * 2 + 1, none⟩) hb).trans g2
      have g2' := (gr.cell (p := ⟨b', o' + k * 2 + 1, none⟩) hb').trans g2'
      have HD := Lib.hid (Tr.all2_drop (p := fun x y => Tr.nameB x y && Tr.sameL x.2 y.2) hlt1 hlt2)
      rw [HG.out] at HD
      have HL := Lib.hid (HS.out.2.2.1 F.lets[k] (List.getElem_mem hlt1)).2
      have HL' := Lib.hid (HT.out.2.2.1 G.lets[k] (List.getElem_mem hlt2)).2
      have N1 := Lib.hid (g3.up gr)
      have N2 := Lib.hid (g3'.up gr)
      clear g3 g3' hb hb'
      generalize F.lets[k] = X at *
      generalize G.lets[k] = Y at *
      clear hlt1 hlt2
      obtain ⟨nx, lx⟩ := X
      obtain ⟨ny, ly⟩ := Y
      simp only at g1 g1' HL HL' N1 N2
      obtain ⟨C, e, rfl⟩ := N1.out.form
      obtain ⟨C', e', rfl⟩ := N2.out.form
      have k1 : (k : Int) < (NL : Int) := by omega
      have k0 : (0 : Int) ≤ (k : Int) := by omega
      have kk : ((k : Int)).toNat = k := by omega
      have uu : Up wr (wr.alloc (.cells #[.string nx, .slice C lx.length e] 142)) := (Up.refl _).alloc _
      have l0 : (wr.alloc (.cells #[.string nx, .slice C lx.length e] 142)).cell? ⟨wr.heap.size, 0, none⟩ = some (.string nx) := by rw [cell_of_row _ _ _ _ _ (0, 0) (heap_alloc_new wr _)]; rfl
      have l1 : (wr.alloc (.cells #[.string nx, .slice C lx.length e] 142)).cell? ⟨wr.heap.size, 1, none⟩ = some (.slice C lx.length e) := by rw [cell_of_row _ _ _ _ _ (0, 0) (heap_alloc_new wr _)]; rfl
      have hzb : w.heap.size + 1 < wr.heap.size := Nat.lt_of_lt_of_le hz hup.size
      have m0 := (uu.cell (p := ⟨w.heap.size + 1, 0, none⟩) hzb).trans b0
      have m1 := (uu.cell (p := ⟨b', o' + k * 2, none⟩) (World.block_lt_of_cell? wr _ g1')).trans g1'
      have m2 := (uu.cell (p := ⟨b', o' + k * 2 + 1, none⟩) (World.block_lt_of_cell? wr _ g2')).trans g2'
      have hupu := hup.trans uu
      go_wp2_with fail
      generalize wr.alloc (.cells #[.string nx, .slice C lx.length e] 142) = W1 at *
      clear g1 g1' g2 g2' b0
      have HOLD : Hid (∀ w', Up W1 w' → w'.cell? ⟨wr.heap.size, 0, none⟩ = some (.string nx) ∧ w'.cell? ⟨wr.heap.size, 1, none⟩ = some (.slice C lx.length e) ∧ w'.cell? ⟨w.heap.size + 1, 0, none⟩ = some (.slice (some ⟨b', o', none⟩) NL c') ∧ w'.cell? ⟨b', o' + k * 2, none⟩ = some (.string ny) ∧ w'.cell? ⟨b', o' + k * 2 + 1, none⟩ = some (.slice C' ly.length e')) := Lib.hid (fun w' hu =>
        ⟨(hu.cell (p := ⟨wr.heap.size, 0, none⟩) (World.block_lt_of_cell? W1 _ l0)).trans l0, (hu.cell (p := ⟨wr.heap.size, 1, none⟩) (World.block_lt_of_cell? W1 _ l1)).trans l1, (hu.cell (p := ⟨w.heap.size + 1, 0, none⟩) (World.block_lt_of_cell? W1 _ m0)).trans m0, (hu.cell (p := ⟨b', o' + k * 2, none⟩) (World.block_lt_of_cell? W1 _ m1)).trans m1, (hu.cell (p := ⟨b', o' + k * 2 + 1, none⟩) (World.block_lt_of_cell? W1 _ m2)).trans m2⟩)
      by_cases hn : (nx.toList == ny.toList) = true
      rotate_left
      · have hn1 : (nx.toList == ny.toList) = false := by simpa using hn
        have HN : Hid (F.same G = false) := Lib.hid (by rw [Tr.Fd.same_each, HD.out]; simp only [Tr.nameB, hn1, Bool.false_and])
        clear hn
        go_quiet (fail)
        go_wp2
        go_ret
        exact ⟨by rw [HN.out]; rfl, (u0.trans hupu).drewN _⟩
      obtain ⟨t, ht⟩ : ∃ t, Tr.sameL lx ly = t := ⟨_, rfl⟩
      have HTT := Lib.hid ht
      clear ht
      have HEQ : Hid (Tr.all2 (fun x y => Tr.nameB x y && Tr.sameL x.2 y.2) F.lets G.lets = (t && Tr.all2 (fun x y => Tr.nameB x y && Tr.sameL x.2 y.2) (F.lets.drop (k + 1)) (G.lets.drop (k + 1)))) := Lib.hid (by rw [HD.out, ← HTT.out]; simp only [Tr.nameB, hn, Bool.true_and])
      clear HD
      cases t with
      | true =>
        have HN : Hid (Tr.all2 (fun x y => Tr.nameB x y && Tr.sameL x.2 y.2) (F.lets.drop (k + 1)) (G.lets.drop (k + 1)) = Tr.all2 (fun x y => Tr.nameB x y && Tr.sameL x.2 y.2) F.lets G.lets) := Lib.hid (by rw [HEQ.out, Bool.true_and])
        go_region_held3 (fun w' => w'.cell? ⟨wr.heap.size, 0, none⟩ = some (.string nx) ∧ w'.cell? ⟨wr.heap.size, 1, none⟩ = some (.slice C lx.length e) ∧ w'.cell? ⟨w.heap.size + 1, 0, none⟩ = some (.slice (some ⟨b', o', none⟩) NL c') ∧ w'.cell? ⟨b', o' + k * 2, none⟩ = some (.string ny) ∧ w'.cell? ⟨b', o' + k * 2 + 1, none⟩ = some (.slice C' ly.length e'))
          (first | go_keep | exact HOLD.out _ q2)
          (first
            | (go_at_call 100
               refine (tree_same_any (N1.out.up (uu.trans (by first | exact Up.refl _ | exact (Up.refl _).drew))) (N2.out.up (uu.trans (by first | exact Up.refl _ | exact (Up.refl _).drew))) (Nat.le_trans HL.out.1 (by omega)) (Nat.le_trans HL'.out.1 (by omega)) (fun y hy => Nat.le_trans (HL.out.2 y hy) (by omega)) (fun y hy => Nat.le_trans (HL'.out.2 y hy) (by omega))).mono ?_
               rintro e w2 ⟨rfl, u2⟩
               rw [HTT.out]
               have q2 : Up W1 w2 := by first | exact u2 | exact ((Up.refl _).drew).trans u2))
        all_goals
          have up3 := hupu.trans q2
          clear l0 l1 m0 m1 m2 u2
          go_wp2
          go_roundw
          case rel => exact ⟨k + 1, by go_num, by omega, up3, HN⟩
          case measure => simp [intOf]; omega
      | false =>
        have HF : Hid (F.same G = false) := Lib.hid (by rw [Tr.Fd.same_each, HEQ.out, Bool.false_and, Bool.false_and])
        go_region_held3 (fun w' => w'.cell? ⟨wr.heap.size, 0, none⟩ = some (.string nx) ∧ w'.cell? ⟨wr.heap.size, 1, none⟩ = some (.slice C lx.length e) ∧ w'.cell? ⟨w.heap.size + 1, 0, none⟩ = some (.slice (some ⟨b', o', none⟩) NL c') ∧ w'.cell? ⟨b', o' + k * 2, none⟩ = some (.string ny) ∧ w'.cell? ⟨b', o' + k * 2 + 1, none⟩ = some (.slice C' ly.length e'))
          (first | go_keep | exact HOLD.out _ q2)
          (first
            | (go_at_call 100
               refine (tree_same_any (N1.out.up (uu.trans (by first | exact Up.refl _ | exact (Up.refl _).drew))) (N2.out.up (uu.trans (by first | exact Up.refl _ | exact (Up.refl _).drew))) (Nat.le_trans HL.out.1 (by omega)) (Nat.le_trans HL'.out.1 (by omega)) (fun y hy => Nat.le_trans (HL.out.2 y hy) (by omega)) (fun y hy => Nat.le_trans (HL'.out.2 y hy) (by omega))).mono ?_
               rintro e w2 ⟨rfl, u2⟩
               rw [HTT.out]
               have q2 : Up W1 w2 := by first | exact u2 | exact ((Up.refl _).drew).trans u2))
        all_goals
          have up3 := (u0.trans hupu).trans q2
          clear l0 l1 m0 m1 m2 u2
          go_wp2
          go_ret
          exact ⟨by rw [HF.out]; rfl, up3⟩
    · obtain rfl : k = NL := by omega
      have HN : Hid (F.same G = Tr.all2 Tr.sameL F.outs G.outs) := Lib.hid (by
        rw [Tr.Fd.same_each, ← HG.out, HNL.out, List.drop_length, H1.out, List.drop_length]
        rfl)
      have a1 := (hup.cell (p := ⟨w.heap.size, 1, none⟩) (by exact Nat.lt_of_succ_lt hz)).trans A1.out
      clear b0 HG
      have HUP := Lib.hid hup
      go_wp2
      go_loopw [7, 8, 58] (fun _ _ s58 wr2 => ∃ k : Nat, s58 = .int .i64 k ∧ k ≤ NO ∧ Up W wr2 ∧ Hid (Tr.all2 Tr.sameL (F.outs.drop k) (G.outs.drop k) = Tr.all2 Tr.sameL F.outs G.outs)) (fun _ _ s58 _ => NO - (intOf s58).toNat)
      case atStart => exact ⟨0, rfl, Nat.zero_le _, HUP.out, Lib.hid rfl⟩
      case round =>
        obtain ⟨k, rfl, hk, hup, HK⟩ := hrel
        have gr := u0.trans hup
        have b1 := (hup.cell (p := ⟨w.heap.size + 1, 1, none⟩) hz).trans B1.out
        by_cases hlt : k < NO
        · have hlt1 : k < F.outs.length := by rw [← HNO.out]; exact hlt
          have hlt2 : k < G.outs.length := by rw [← H2.out]; exact hlt1
          obtain ⟨b, o, u, rfl, hb, c1, n1⟩ := HB.out.at_ hlt1
          obtain ⟨b', o', u', rfl, hb', c2, n2⟩ := HB'.out.at_ hlt2
          have c1 := (gr.cell (p := ⟨b, o + k, none⟩) hb).trans c1
          have c2 := (gr.cell (p := ⟨b', o' + k, none⟩) hb').trans c2
          have HD := Lib.hid (Tr.all2_drop (p := Tr.sameL) hlt1 hlt2)
          rw [HK.out] at HD
          have HL := Lib.hid (HS.out.2.2.2 F.outs[k] (List.getElem_mem hlt1))
          have HL' := Lib.hid (HT.out.2.2.2 G.outs[k] (List.getElem_mem hlt2))
          have N1 := Lib.hid (n1.up gr)
          have N2 := Lib.hid (n2.up gr)
          clear n1 n2
          generalize F.outs[k] = p at *
          generalize G.outs[k] = p' at *
          clear hlt1 hlt2
          obtain ⟨t, ht⟩ : ∃ t, Tr.sameL p p' = t := ⟨_, rfl⟩
          have HTT := Lib.hid ht
          clear ht
          go_wp2_with fail
          refine (tree_same_any N1.out N2.out (Nat.le_trans HL.out.1 (by omega)) (Nat.le_trans HL'.out.1 (by omega)) (fun y hy => Nat.le_trans (HL.out.2 y hy) (by omega)) (fun y hy => Nat.le_trans (HL'.out.2 y hy) (by omega))).mono ?_
          rintro e w2 ⟨rfl, u2⟩
          rw [HTT.out]
          have gr2 := gr.trans u2
          have hup2 := hup.trans u2
          clear c1 c2 b1
          cases t with
          | true =>
            have HN2 : Hid (Tr.all2 Tr.sameL (F.outs.drop (k + 1)) (G.outs.drop (k + 1)) = Tr.all2 Tr.sameL F.outs G.outs) := Lib.hid (by rw [HD.out, HTT.out, Bool.true_and])
            go_wp2
            go_roundw
            case rel => exact ⟨k + 1, by go_num, by omega, hup2, HN2⟩
            case measure => simp [intOf]; omega
          | false =>
            have HF : Hid (F.same G = false) := Lib.hid (by rw [HN.out, HD.out, HTT.out, Bool.false_and])
            go_wp2
            go_ret
            exact ⟨by rw [HF.out]; rfl, gr2⟩
        · obtain rfl : k = NO := by omega
          have HF : Hid (F.same G = true) := Lib.hid (by rw [HN.out, ← HK.out, HNO.out, List.drop_length, H2.out, List.drop_length]; rfl)
          go_wp2
          go_ret
          exact ⟨by rw [HF.out]; rfl, gr⟩
end Go.Proofs.Ytmmcffceeahemaa
