/-
  The walks of layer 17: nodes turned over, copied, compared; where an expression begins.
-/
import Derived.Test.YtmmcffceeahemaaNodes
import Derived.Deep.LoopGhost
set_option linter.unusedVariables false
set_option linter.unusedSimpArgs false
namespace Go.Proofs.Ytmmcffceeahemaa
open Go.RowKit

/-- What comes back: a slice of nodes. -/
def RetN (l : List Tr.Nd) (w : World) (e : Ending) (w' : World) : Prop := ∃ v, e = .returned v ∧ Nds w' v l ∧ Up w w'

/-- What comes back: nodes that are all the call's own. -/
def RetR (l : List Tr.Nd) (w : World) (e : Ending) (w' : World) : Prop := ∃ v, e = .returned v ∧ Row False 135 w w' v l

set_option maxRecDepth 100000 in
set_option maxHeartbeats 1600000 in
theorem law_to {v : Value} {l : List Tr.Nd} {w : World} (h : Nds w v l) (hl : l.length ≤ 1000000) :
    Calls Try.prog 97 #[v] w (RetN l w) := by
  obtain ⟨A, c, rfl, h1, h2, h3, h4⟩ := h
  have H3 := Lib.hid h3
  have H4 := Lib.hid h4
  clear h2 h3 h4
  go_enter Try.func97, Try.ntmps97
  go_wp2
  go_loopw [3, 4] (fun s3 s4 wr => ∃ (k : Nat), s4 = .int .i64 k ∧ k ≤ l.length ∧ Row True 135 w wr s3 (l.take k)) (fun _ s4 _ => l.length - (intOf s4).toNat)
  case atStart => exact ⟨0, rfl, Nat.zero_le _, Row.none_ _ w⟩
  case round =>
    obtain ⟨k, rfl, hk, hrow⟩ := hrel
    by_cases hlt : k < l.length
    · obtain ⟨b, p, rfl, hb, g1, g2, u, g3, g4⟩ := (H4.out.up hrow.world).at_ hlt
      obtain ⟨g4o, hold⟩ : Ws w u l[k].n ∧ ∀ w', Up w w' → w'.cell? ⟨b, p + k * 3, none⟩ = some (.int .i64 l[k].op) ∧ w'.cell? ⟨b, p + k * 3 + 1, none⟩ = some (.int .i64 l[k].i) ∧ w'.cell? ⟨b, p + k * 3 + 2, none⟩ = some u := by
        obtain ⟨b', p', e, _, q1, q2, u', q3, q4⟩ := H4.out.at_ hlt
        cases e
        have hbw := World.block_lt_of_cell? w _ q3
        have := (hrow.world.cell (p := ⟨b, p + k * 3 + 2, none⟩) hbw).trans q3
        rw [g3] at this
        cases this
        exact ⟨q4, fun w' hu => ⟨(hu.cell (p := ⟨b, p + k * 3, none⟩) hbw).trans q1, (hu.cell (p := ⟨b, p + k * 3 + 1, none⟩) hbw).trans q2, (hu.cell (p := ⟨b, p + k * 3 + 2, none⟩) hbw).trans q3⟩⟩
      have HOLD := Lib.hid hold
      clear hold
      have hx := H3.out l[k] (List.getElem_mem hlt)
      have HTK : Hid (l.take (k + 1) = l.take k ++ [l[k]]) := Lib.hid (List.take_succ_eq_append_getElem hlt)
      have hlen : (l.take k).length = k := by rw [List.length_take]; omega
      obtain ⟨B, d, rfl⟩ := g4.form
      have HLEN := Lib.hid hlen
      clear hlen g4
      generalize l[k] = x at *
      obtain ⟨C, cc, rfl⟩ := hrow.form
      rw [HLEN.out] at hrow ⊢
      have k1 : (k : Int) < (l.length : Int) := by omega
      have k0 : (0 : Int) ≤ (k : Int) := by omega
      have kk : ((k : Int)).toNat = k := by omega
      go_wp2
      go_region_held3 (fun w' => w'.cell? ⟨b, p + k * 3, none⟩ = some (.int .i64 x.op) ∧ w'.cell? ⟨b, p + k * 3 + 1, none⟩ = some (.int .i64 x.i) ∧ w'.cell? ⟨b, p + k * 3 + 2, none⟩ = some (.slice B x.n.length d))
        (first | go_keep | exact HOLD.out _ h5.world)
        ((refine step_row_t (w0 := w) (by rfl) _ _ (by rfl) (l := l.take k) (x := x) (u := .slice B x.n.length d) (by rfl) (hrow.up (by first | exact ((Up.refl _).alloc _).drew | exact ((Up.refl _).drew).alloc _ | exact (Up.refl _).alloc _)) (by rfl) (heap_alloc_new wr _) (NumsB.one_old g4o) hx (by rw [HLEN.out]; omega) ?_; intro v' w3 h5 gr5))
      rw [← HTK.out] at h5
      go_wp2
      go_roundw
      case rel => exact ⟨k + 1, by go_num, by omega, h5⟩
      case measure => simp [intOf]; omega
    · obtain rfl : k = l.length := by omega
      rw [List.take_length] at hrow
      go_wp2
      go_ret
      exact ⟨_, rfl, hrow.nds, hrow.world⟩
set_option maxRecDepth 100000 in
set_option maxHeartbeats 1600000 in
theorem law_of {v : Value} {l : List Tr.Nd} {w : World} (h : Nds w v l) (hl : l.length ≤ 1000000) :
    Calls Try.prog 20 #[v] w (RetN l w) := by
  obtain ⟨A, c, rfl, h1, h2, h3, h4⟩ := h
  have H3 := Lib.hid h3
  have H4 := Lib.hid h4
  clear h2 h3 h4
  go_enter Try.func20, Try.ntmps20
  go_wp2
  go_loopw [3, 4] (fun s3 s4 wr => ∃ (k : Nat), s4 = .int .i64 k ∧ k ≤ l.length ∧ Row True 144 w wr s3 (l.take k)) (fun _ s4 _ => l.length - (intOf s4).toNat)
  case atStart => exact ⟨0, rfl, Nat.zero_le _, Row.none_ _ w⟩
  case round =>
    obtain ⟨k, rfl, hk, hrow⟩ := hrel
    by_cases hlt : k < l.length
    · obtain ⟨b, p, rfl, hb, g1, g2, u, g3, g4⟩ := (H4.out.up hrow.world).at_ hlt
      obtain ⟨g4o, hold⟩ : Ws w u l[k].n ∧ ∀ w', Up w w' → w'.cell? ⟨b, p + k * 3, none⟩ = some (.int .i64 l[k].op) ∧ w'.cell? ⟨b, p + k * 3 + 1, none⟩ = some (.int .i64 l[k].i) ∧ w'.cell? ⟨b, p + k * 3 + 2, none⟩ = some u := by
        obtain ⟨b', p', e, _, q1, q2, u', q3, q4⟩ := H4.out.at_ hlt
        cases e
        have hbw := World.block_lt_of_cell? w _ q3
        have := (hrow.world.cell (p := ⟨b, p + k * 3 + 2, none⟩) hbw).trans q3
        rw [g3] at this
        cases this
        exact ⟨q4, fun w' hu => ⟨(hu.cell (p := ⟨b, p + k * 3, none⟩) hbw).trans q1, (hu.cell (p := ⟨b, p + k * 3 + 1, none⟩) hbw).trans q2, (hu.cell (p := ⟨b, p + k * 3 + 2, none⟩) hbw).trans q3⟩⟩
      have HOLD := Lib.hid hold
      clear hold
      have hx := H3.out l[k] (List.getElem_mem hlt)
      have HTK : Hid (l.take (k + 1) = l.take k ++ [l[k]]) := Lib.hid (List.take_succ_eq_append_getElem hlt)
      have hlen : (l.take k).length = k := by rw [List.length_take]; omega
      obtain ⟨B, d, rfl⟩ := g4.form
      have HLEN := Lib.hid hlen
      clear hlen g4
      generalize l[k] = x at *
      obtain ⟨C, cc, rfl⟩ := hrow.form
      rw [HLEN.out] at hrow ⊢
      have k1 : (k : Int) < (l.length : Int) := by omega
      have k0 : (0 : Int) ≤ (k : Int) := by omega
      have kk : ((k : Int)).toNat = k := by omega
      go_wp2
      go_region_held3 (fun w' => w'.cell? ⟨b, p + k * 3, none⟩ = some (.int .i64 x.op) ∧ w'.cell? ⟨b, p + k * 3 + 1, none⟩ = some (.int .i64 x.i) ∧ w'.cell? ⟨b, p + k * 3 + 2, none⟩ = some (.slice B x.n.length d))
        (first | go_keep | exact HOLD.out _ h5.world)
        ((refine step_row_r (w0 := w) (by rfl) _ _ (by rfl) (l := l.take k) (x := x) (u := .slice B x.n.length d) (by rfl) (hrow.up (by first | exact ((Up.refl _).alloc _).drew | exact ((Up.refl _).drew).alloc _ | exact (Up.refl _).alloc _)) (by rfl) (heap_alloc_new wr _) (NumsB.one_old g4o) hx (by rw [HLEN.out]; omega) ?_; intro v' w3 h5 gr5))
      rw [← HTK.out] at h5
      go_wp2
      go_roundw
      case rel => exact ⟨k + 1, by go_num, by omega, h5⟩
      case measure => simp [intOf]; omega
    · obtain rfl : k = l.length := by omega
      rw [List.take_length] at hrow
      go_wp2
      go_ret
      exact ⟨_, rfl, hrow.nds, hrow.world⟩

set_option maxRecDepth 100000 in
set_option maxHeartbeats 3200000 in
theorem tree_copied {v : Value} {l : List Tr.Nd} {w : World} (h : Nds w v l) (hl : l.length ≤ 1000000) (hnl : ∀ x ∈ l, x.n.length ≤ 1000000) :
    Calls Try.prog 98 #[v] w (RetR l w) := by
  obtain ⟨A, c, rfl, h1, h2, h3, h4⟩ := h
  have H3 := Lib.hid h3
  have H4 := Lib.hid h4
  have HNL := Lib.hid hnl
  clear h2 h3 h4 hnl
  go_enter Try.func98, Try.ntmps98
  go_wp2
  go_loopw [3, 5, 8] (fun s3 _ s8 wr => ∃ (k : Nat), s8 = .int .i64 k ∧ k ≤ l.length ∧ Row False 135 w wr s3 (l.take k)) (fun _ _ s8 _ => l.length - (intOf s8).toNat)
  case atStart => exact ⟨0, rfl, Nat.zero_le _, Row.none_ _ w⟩
  case round =>
    obtain ⟨k, rfl, hk, hrow⟩ := hrel
    by_cases hlt : k < l.length
    · obtain ⟨b, p, rfl, hb, g1, g2, u, g3, g4⟩ := (H4.out.up hrow.world).at_ hlt
      have hx := H3.out l[k] (List.getElem_mem hlt)
      have hnl := HNL.out l[k] (List.getElem_mem hlt)
      have HTK : Hid (l.take (k + 1) = l.take k ++ [l[k]]) := Lib.hid (List.take_succ_eq_append_getElem hlt)
      have hlen : (l.take k).length = k := by rw [List.length_take]; omega
      have HOK := Lib.hid g4.ok
      obtain ⟨B, d, e, _, _, _, hrd⟩ := g4
      subst e
      have HLEN := Lib.hid hlen
      clear hlen
      generalize l[k] = x at *
      obtain ⟨C, cc, rfl⟩ := hrow.form
      rw [HLEN.out] at hrow ⊢
      have hown0 : ∀ g, (Value.slice C k cc).ownBlock = some g → g < wr.heap.size := by
        obtain ⟨_, _, us, _, ho⟩ := hrow
        exact fun g hg => (ho.lt g hg).2
      have HNE : Hid (some wr.heap.size ≠ (Value.slice C k cc).ownBlock) := Lib.hid (fun e => by have := hown0 _ e.symm; omega)
      clear hown0
      go_wp2
      have uu : Up wr (wr.alloc (.cells #[.int .i64 x.op, .int .i64 x.i, .slice B x.n.length d] 135)) := (Up.refl wr).alloc _
      have c0 : ∀ w', Up (wr.alloc (.cells #[.int .i64 x.op, .int .i64 x.i, .slice B x.n.length d] 135)) w' → w'.cell? ⟨wr.heap.size, 0, none⟩ = some (.int .i64 x.op) ∧ w'.cell? ⟨wr.heap.size, 1, none⟩ = some (.int .i64 x.i) ∧ w'.cell? ⟨wr.heap.size, 2, none⟩ = some (.slice B x.n.length d) := fun w' hu => by
        have hz : wr.heap.size < (wr.alloc (.cells #[.int .i64 x.op, .int .i64 x.i, .slice B x.n.length d] 135)).heap.size := by simp
        refine ⟨(hu.cell (p := ⟨wr.heap.size, 0, none⟩) hz).trans ?_, (hu.cell (p := ⟨wr.heap.size, 1, none⟩) hz).trans ?_, (hu.cell (p := ⟨wr.heap.size, 2, none⟩) hz).trans ?_⟩
        all_goals (rw [cell_of_row _ _ _ _ _ (0, 0) (heap_alloc_new wr _)]; rfl)
      generalize wr.alloc (.cells #[.int .i64 x.op, .int .i64 x.i, .slice B x.n.length d] 135) = W1 at *
      have HC := Lib.hid c0
      have hw1 := hrow.world.trans uu
      have hrd1 := hrd.up uu
      have hrow1 := hrow.up uu
      clear c0 hrow hrd g1 g2 g3 uu hb
      generalize wr.heap.size = N at *
      obtain ⟨s1, s2, s3⟩ := HC.out W1 (Up.refl W1)
      go_region_held3 (fun w' => w'.cell? ⟨N, 0, none⟩ = some (.int .i64 x.op) ∧ w'.cell? ⟨N, 1, none⟩ = some (.int .i64 x.i) ∧ w'.cell? ⟨N, 2, none⟩ = some (.slice B x.n.length d))
        (first | go_keep | exact HC.out _ u2 | exact HC.out _ (u2.alloc _) | (go_split_ands; refine ⟨?_, ?_, ?_⟩ <;> exact World.grownBy.cell gr5 (by assumption) HNE.out))
        (first
          | (refine step_words_nil (w0 := w) (by rfl) _ _ (by rfl) (by rfl) (l := x.n) (by rfl) (hrd1.up (by first | exact Up.refl _ | exact (Up.refl _).drew)) rfl (by omega) (hw1.trans (by first | exact Up.refl _ | exact (Up.refl _).drew)) ?_
             intro v2 w2 h2 u2'
             obtain ⟨B2, d2, rfl, _, _⟩ := own_form h2
             have u2 : Up W1 w2 := by first | exact u2' | exact ((Up.refl _).drew).trans u2')
          | (refine step_row_t (w0 := w) (by rfl) _ _ (by rfl) (l := l.take k) (x := x) (u := .slice B2 x.n.length d2) (by rfl) ((hrow1.up u2).up (by first | exact ((Up.refl _).alloc _).drew | exact ((Up.refl _).drew).alloc _ | exact (Up.refl _).alloc _)) (by rfl) (heap_alloc_new w2 _) (NumsB.up (NumsB.one_own h2 HOK.out) (by first | exact ((Up.refl _).alloc _).drew | exact ((Up.refl _).drew).alloc _ | exact (Up.refl _).alloc _)) hx (by rw [HLEN.out]; omega) ?_
             intro v' w3 h5 gr5))
      rw [← HTK.out] at h5
      clear gr5 h2 s1 s2 s3
      go_wp2
      go_roundw
      case rel => exact ⟨k + 1, by go_num, by omega, h5⟩
      case measure => simp [intOf]; omega
    · obtain rfl : k = l.length := by omega
      rw [List.take_length] at hrow
      go_wp2
      go_ret
      exact ⟨_, rfl, hrow⟩
end Go.Proofs.Ytmmcffceeahemaa
