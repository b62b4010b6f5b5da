/-
  Layers 8 and 9, the document's answers: rounded down.
-/
import Derived.Test.YtmmcffceeahemaaGreatZsRefFrac6
set_option linter.unusedVariables false
set_option linter.unusedSimpArgs false
namespace Go.Proofs.YtmmcffceeahemaaGreat
open Go.RowKit
/-- Two structs, stored into the results. -/
theorem z_stored2 {w : World} {T : TypeId} {g : Nat} {s : Bool} {u p q : Value} (r : Bx T w g [p, q]) (np : NoWord p) (nq : NoWord q) : Bx T ((w.setCell ⟨g, 0, none⟩ (.bool s)).setCell ⟨g, 1, none⟩ u) g [.bool s, u] ∧ Kw w ((w.setCell ⟨g, 0, none⟩ (.bool s)).setCell ⟨g, 1, none⟩ u) := by
 have r1 : Bx T (w.setCell ⟨g, 0, none⟩ (.bool s)) g [.bool s, q] := r.set 0 _
 have r2 : Bx T ((w.setCell ⟨g, 0, none⟩ (.bool s)).setCell ⟨g, 1, none⟩ u) g [.bool s, u] := r1.set 1 _
 exact ⟨r2, (Kw.store (i := 0) (c := p) r rfl np (.bool s)).trans (Kw.store (i := 1) (c := q) r1 rfl nq u)⟩
theorem end_fl2 {fn : Func} {a : Act} {w0 w : World} {t t' : Tmp} {g g' : Nat} {z y : Int} {s s' : Bool} {u u' p q p' q' : Value} (hres : fn.results = #[.cell t 134, .cell t' 134]) (ht : a.tmps.getD t undef = .pointer (some ⟨g, 0, none⟩)) (ht' : a.tmps.getD t' undef = .pointer (some ⟨g', 0, none⟩)) (hd : a.defers = [])
 (h : Zw w (.agg #[.bool s, u]) z) (h' : Zw w (.agg #[.bool s', u']) y) (r : Bx 134 w g [p, q]) (r' : Bx 134 w g' [p', q']) (np : NoWord p) (nq : NoWord q) (np' : NoWord p') (nq' : NoWord q') (hne : g ≠ g') (hu : Up w0 w) (hg : w0.heap.size ≤ g) (hg' : w0.heap.size ≤ g') :
 bodyPost Tryz.prog fn (RetFl2 z w0) .ret a ((((w.setCell ⟨g, 0, none⟩ (.bool s)).setCell ⟨g, 1, none⟩ u).setCell ⟨g', 0, none⟩ (.bool s')).setCell ⟨g', 1, none⟩ u') := by
 obtain ⟨a1, k1⟩ := z_stored2 (s := s) (u := u) r np nq
 have b0 := (r'.far (p := ⟨g, 0, none⟩) (by dsimp only; omega) (.bool s)).far (p := ⟨g, 1, none⟩) (by dsimp only; omega) u
 obtain ⟨b1, k2⟩ := z_stored2 (s := s') (u := u') b0 np' nq'
 have a2 := (a1.far (p := ⟨g', 0, none⟩) (by dsimp only; omega) (.bool s')).far (p := ⟨g', 1, none⟩) (by dsimp only; omega) u'
 have k := k1.trans k2
 exact bodyPost_ret (run_res_cell2 hres ht ht' agg_rwhole size_rwhole agg_rwhole size_rwhole a2 rfl b1 rfl) hd ⟨_, _, y, rfl, h.kw k, h'.kw k, (((hu.setCell (p := ⟨g, 0, none⟩) (by first | exact hg | exact hg') _).setCell (p := ⟨g, 1, none⟩) (by first | exact hg | exact hg') _).setCell (p := ⟨g', 0, none⟩) (by first | exact hg | exact hg') _).setCell (p := ⟨g', 1, none⟩) (by first | exact hg | exact hg') _⟩
theorem end_fl2' {fn : Func} {a : Act} {w0 w : World} {t t' : Tmp} {g g' : Nat} {z y : Int} {s s' : Bool} {u u' p q p' q' : Value} (hres : fn.results = #[.cell t 134, .cell t' 134]) (ht : a.tmps.getD t undef = .pointer (some ⟨g, 0, none⟩)) (ht' : a.tmps.getD t' undef = .pointer (some ⟨g', 0, none⟩)) (hd : a.defers = [])
 (h : Zw w (.agg #[.bool s, u]) z) (h' : Zw w (.agg #[.bool s', u']) y) (r : Bx 134 w g [p, q]) (r' : Bx 134 w g' [p', q']) (np : NoWord p) (nq : NoWord q) (np' : NoWord p') (nq' : NoWord q') (hne : g ≠ g') (hu : Up w0 w) (hg : w0.heap.size ≤ g) (hg' : w0.heap.size ≤ g') :
 bodyPost Tryz.prog fn (RetFl2 z w0) .ret a ((((w.setCell ⟨g', 0, none⟩ (.bool s')).setCell ⟨g', 1, none⟩ u').setCell ⟨g, 0, none⟩ (.bool s)).setCell ⟨g, 1, none⟩ u) := by
 obtain ⟨a1, k1⟩ := z_stored2 (s := s') (u := u') r' np' nq'
 have b0 := (r.far (p := ⟨g', 0, none⟩) (by dsimp only; omega) (.bool s')).far (p := ⟨g', 1, none⟩) (by dsimp only; omega) u'
 obtain ⟨b1, k2⟩ := z_stored2 (s := s) (u := u) b0 np nq
 have a2 := (a1.far (p := ⟨g, 0, none⟩) (by dsimp only; omega) (.bool s)).far (p := ⟨g, 1, none⟩) (by dsimp only; omega) u
 have k := k1.trans k2
 exact bodyPost_ret (run_res_cell2 hres ht ht' agg_rwhole size_rwhole agg_rwhole size_rwhole b1 rfl a2 rfl) hd ⟨_, _, y, rfl, h.kw k, h'.kw k, (((hu.setCell (p := ⟨g', 0, none⟩) (by first | exact hg | exact hg') _).setCell (p := ⟨g', 1, none⟩) (by first | exact hg | exact hg') _).setCell (p := ⟨g, 0, none⟩) (by first | exact hg | exact hg') _).setCell (p := ⟨g, 1, none⟩) (by first | exact hg | exact hg') _⟩
set_option maxRecDepth 100000 in
set_option maxHeartbeats 6400000 in
theorem ref8_floor {v u : Value} {z y : Int} {j k : Nat} {w : World} (h : Wh w v z j) (h' : Wh w u y k) (hj : j ≤ 10000000) (hk : k ≤ 10000000) (hy0 : 0 < y) : Calls Tryz.prog 157 #[v, u] w (RetFl2 (z / y) w) := by
 have H1 := h
 have H2 := h'
 have LZ := h.lz
 have LY := h'.lz
 obtain ⟨s, v1, l, rfl, hl, hz, hle⟩ := h
 obtain ⟨t, v2, m, rfl, hm, hy, hme⟩ := h'
 obtain rfl : t = false := by
  cases t
  · rfl
  · exfalso; rw [Wd.iv_true] at hy; omega
 obtain ⟨A, c, rfl⟩ := hl.form
 obtain ⟨D, d, rfl⟩ := hm.form
 have hM : Wd.val m ≠ 0 := by rintro h0; rw [h0, Wd.iv_zero] at hy; omega
 have HM := Lib.hid hM
 have hQ : (Wd.words (Wd.val l / Wd.val m)).length ≤ 10000000 := Nat.le_trans (Nat.le_trans (Wd.words_mono (Nat.div_le_self _ _)) (Wd.words_val_length hl.ok)) (by omega)
 have hQ1 : (Wd.words (Wd.val l / Wd.val m + 1)).length ≤ 10000001 := Wd.words_add_le1 hQ (Nat.le_trans Wd.words_one_len (by omega))
 have LQ : Wd.Lz (z / y) 10000001 := by
  by_cases hc : s = true ∧ Wd.val l % Wd.val m ≠ 0
  · rw [← hz, ← hy, hc.1, ← Wd.floor_more (by omega) hc.2]; exact Wd.Lz.iv hQ1
  · rw [← hz, ← hy, ← Wd.floor_even (by omega) (by cases s; exact .inl rfl; exact .inr (Classical.byContradiction fun hh => hc ⟨rfl, hh⟩))]; exact Wd.Lz.iv (Nat.le_trans hQ (by omega))
 obtain ⟨q, hq⟩ : ∃ q, z / y = q := ⟨_, rfl⟩
 rw [hq] at LQ ⊢
 have LQY := LQ.mul LY
 have LN := LQY.neg
 have LR := LZ.add LN
 have HQM := Lib.hid (fun (hc : s = true ∧ Wd.val l % Wd.val m ≠ 0) => show Wd.iv true (Wd.val l / Wd.val m + 1) = q by rw [← hq, ← hz, ← hy, hc.1, ← Wd.floor_more (by omega) hc.2])
 have HQE := Lib.hid (fun (hc : s = false ∨ Wd.val l % Wd.val m = 0) => show Wd.iv s (Wd.val l / Wd.val m) = q by rw [← hq, ← hz, ← hy, ← Wd.floor_even (by omega) hc])
 clear hM hz hy hq
 cases s
 · skip
   have UP : Up w ((((w.alloc (.cells #[.bool false, .slice A l.length c] 134)).alloc (.cells #[.bool false, .slice D m.length d] 134)).alloc (.cells #[.bool false, .slice none 0 0] 134)).alloc (.cells #[.bool false, .slice none 0 0] 134)) := ((((Up.refl w).alloc _).alloc _).alloc _).alloc _
   obtain ⟨b0, b1, r0, r1⟩ := bx_four 134 134 134 134 w [.bool false, .slice A l.length c] [.bool false, .slice D m.length d] [.bool false, .slice none 0 0] [.bool false, .slice none 0 0]
   go_enter Tryz.func157, Tryz.ntmps157
   go_wp2_with fail
   generalize ((((w.alloc (.cells #[.bool false, .slice A l.length c] 134)).alloc (.cells #[.bool false, .slice D m.length d] 134)).alloc (.cells #[.bool false, .slice none 0 0] 134)).alloc (.cells #[.bool false, .slice none 0 0] 134)) = W at *
   replace hl := hl.up UP
   replace hm := hm.up UP
   replace H1 := H1.up UP
   replace H2 := H2.up UP
   obtain ⟨b0_0, b0_1⟩ := b0.c2
   obtain ⟨b1_0, b1_1⟩ := b1.c2
   obtain ⟨r0_0, r0_1⟩ := r0.c2
   have r0_f0 := r0.free 0
   have r0_f1 := r0.free 1
   obtain ⟨r1_0, r1_1⟩ := r1.c2
   have r1_f0 := r1.free 0
   have r1_f1 := r1.free 1
   go_wp2_with fail
   ((with_reducible refine (ref_div hl hm (by omega) (by omega) HM.out).mono ?_))
   rintro e W1 ⟨V1, V1', rfl, n1, o1, k1, u1⟩
   have n2 := Ws.of_own o1 k1
   clear o1 k1
   replace hl := hl.up u1
   replace hm := hm.up u1
   replace H1 := H1.up u1
   replace H2 := H2.up u1
   replace b0 := b0.up u1
   replace b1 := b1.up u1
   replace r0 := r0.up u1
   replace r1 := r1.up u1
   replace UP := UP.trans u1
   clear b0_0 b0_1 b1_0 b1_1 r0_0 r0_1 r1_0 r1_1
   obtain ⟨b0_0, b0_1⟩ := b0.c2
   obtain ⟨b1_0, b1_1⟩ := b1.c2
   obtain ⟨r0_0, r0_1⟩ := r0.c2
   replace r0_f0 := r0.free 0
   replace r0_f1 := r0.free 1
   obtain ⟨r1_0, r1_1⟩ := r1.c2
   replace r1_f0 := r1.free 0
   replace r1_f1 := r1.free 1
   clear u1
   obtain ⟨A1, x1, c1, rfl⟩ := n1.shape
   obtain ⟨A2, c2, rfl⟩ := n2.form
   skip
   generalize (Wd.words (Wd.val l % Wd.val m)).length = kk at *
   clear n2
   go_wp2_with fail
   ((with_reducible refine (ref8_norm (Wh.mk false n1 (k := 10000001) (by omega)) (by omega)).mono ?_))
   rintro e W2 ⟨V2, rfl, z1, u2⟩
   replace hl := hl.up u2
   replace hm := hm.up u2
   replace H1 := H1.up u2
   replace H2 := H2.up u2
   replace n1 := n1.up u2
   replace b0 := b0.up u2
   replace b1 := b1.up u2
   replace r0 := r0.up u2
   replace r1 := r1.up u2
   replace UP := UP.trans u2
   clear b0_0 b0_1 b1_0 b1_1 r0_0 r0_1 r1_0 r1_1
   obtain ⟨b0_0, b0_1⟩ := b0.c2
   obtain ⟨b1_0, b1_1⟩ := b1.c2
   obtain ⟨r0_0, r0_1⟩ := r0.c2
   replace r0_f0 := r0.free 0
   replace r0_f1 := r0.free 1
   obtain ⟨r1_0, r1_1⟩ := r1.c2
   replace r1_f0 := r1.free 0
   replace r1_f1 := r1.free 1
   clear u2
   rw [Wd.val_words, HQE.out (.inl (by trivial))] at z1
   obtain ⟨Xz1, rfl, z1⟩ := z1
   obtain ⟨Az1, nz1, cz1, rfl⟩ := z1.shape
   have b0_0a := fun O0 => (cell_alloc (o := O0) b0_0)
   have b0_1a := fun O0 => (cell_alloc (o := O0) b0_1)
   have b1_0a := fun O0 => (cell_alloc (o := O0) b1_0)
   have b1_1a := fun O0 => (cell_alloc (o := O0) b1_1)
   have r0_0a := fun O0 => (cell_alloc (o := O0) r0_0)
   have r0_f0a := fun O0 => (r0.up ((Up.refl W2).alloc O0)).free 0
   have r0_1a := fun O0 => (cell_alloc (o := O0) r0_1)
   have r0_f1a := fun O0 => (r0.up ((Up.refl W2).alloc O0)).free 1
   have r1_0a := fun O0 => (cell_alloc (o := O0) r1_0)
   have r1_f0a := fun O0 => (r1.up ((Up.refl W2).alloc O0)).free 0
   have r1_1a := fun O0 => (cell_alloc (o := O0) r1_1)
   have r1_f1a := fun O0 => (r1.up ((Up.refl W2).alloc O0)).free 1
   go_wp2_with fail
   clear b0_0a b0_1a b1_0a b1_1a r0_0a r0_f0a r0_1a r0_f1a r1_0a r1_f0a r1_1a r1_f1a
   have x1 := Bx.new 134 W2 [.bool (Wd.ngb q), .slice Az1 nz1 cz1]
   have b0_lt_x1 := b0.lt
   have b1_lt_x1 := b1.lt
   have r0_lt_x1 := r0.lt
   have r1_lt_x1 := r1.lt
   have nu := ((Up.refl W2).alloc (.cells #[.bool (Wd.ngb q), .slice Az1 nz1 cz1] 134))
   replace hl := hl.up nu
   replace hm := hm.up nu
   replace H1 := H1.up nu
   replace H2 := H2.up nu
   replace n1 := n1.up nu
   replace z1 := z1.up nu
   replace b0 := b0.up nu
   replace b1 := b1.up nu
   replace r0 := r0.up nu
   replace r1 := r1.up nu
   replace UP := UP.trans nu
   clear nu
   generalize (W2.alloc (.cells #[.bool (Wd.ngb q), .slice Az1 nz1 cz1] 134)) = W3 at *
   clear b0_0 b0_1 b1_0 b1_1 r0_0 r0_1 r1_0 r1_1
   obtain ⟨b0_0, b0_1⟩ := b0.c2
   obtain ⟨b1_0, b1_1⟩ := b1.c2
   obtain ⟨r0_0, r0_1⟩ := r0.c2
   replace r0_f0 := r0.free 0
   replace r0_f1 := r0.free 1
   obtain ⟨r1_0, r1_1⟩ := r1.c2
   replace r1_f0 := r1.free 0
   replace r1_f1 := r1.free 1
   obtain ⟨x1_0, x1_1⟩ := x1.c2
   have Z1 : Zw W3 (.agg #[.bool (Wd.ngb q), .slice Az1 nz1 cz1]) q := ⟨_, rfl, z1⟩
   replace hl := hl.up (Up.refl W3).drew
   replace hm := hm.up (Up.refl W3).drew
   replace H1 := H1.up (Up.refl W3).drew
   replace H2 := H2.up (Up.refl W3).drew
   replace n1 := n1.up (Up.refl W3).drew
   replace z1 := z1.up (Up.refl W3).drew
   replace Z1 := Z1.up (Up.refl W3).drew
   replace b0 := b0.up (Up.refl W3).drew
   replace b1 := b1.up (Up.refl W3).drew
   replace r0 := r0.up (Up.refl W3).drew
   replace r1 := r1.up (Up.refl W3).drew
   replace x1 := x1.up (Up.refl W3).drew
   replace UP := UP.trans (Up.refl W3).drew
   clear b0_0 b0_1 b1_0 b1_1 x1_0 x1_1
   obtain ⟨b0_0, b0_1⟩ := b0.c2
   obtain ⟨b1_0, b1_1⟩ := b1.c2
   obtain ⟨r0_0, r0_1⟩ := r0.c2
   have r0_f0 := r0.free 0
   have r0_f1 := r0.free 1
   obtain ⟨r1_0, r1_1⟩ := r1.c2
   have r1_f0 := r1.free 0
   have r1_f1 := r1.free 1
   obtain ⟨x1_0, x1_1⟩ := x1.c2
   go_region_held3 (fun w' => Up w w' ∧ w'.cell? ⟨w.heap.size, 0, none⟩ = some (.bool false) ∧ w'.cell? ⟨w.heap.size, 1, none⟩ = some (.slice A l.length c) ∧ w'.cell? ⟨w.heap.size + 1, 0, none⟩ = some (.bool false) ∧ w'.cell? ⟨w.heap.size + 1, 1, none⟩ = some (.slice D m.length d) ∧ w'.cell? ⟨W2.heap.size, 0, none⟩ = some (.bool (Wd.ngb q)) ∧ w'.cell? ⟨W2.heap.size, 1, none⟩ = some (.slice Az1 nz1 cz1))
    (first | with_reducible exact ⟨UP, b0_0, b0_1, b1_0, b1_1, x1_0, x1_1⟩ | with_reducible exact ⟨((UP.setCell (p := ⟨w.heap.size + 1 + 1, 0, none⟩) (by dsimp only; omega) _).setCell (p := ⟨w.heap.size + 1 + 1, 1, none⟩) (by dsimp only; omega) _), (cell_far_block (cell_far_block b0_0 (by dsimp only; omega)) (by dsimp only; omega)), (cell_far_block (cell_far_block b0_1 (by dsimp only; omega)) (by dsimp only; omega)), (cell_far_block (cell_far_block b1_0 (by dsimp only; omega)) (by dsimp only; omega)), (cell_far_block (cell_far_block b1_1 (by dsimp only; omega)) (by dsimp only; omega)), (cell_far_block (cell_far_block x1_0 (by dsimp only; omega)) (by dsimp only; omega)), (cell_far_block (cell_far_block x1_1 (by dsimp only; omega)) (by dsimp only; omega))⟩ | with_reducible exact ⟨((UP.setCell (p := ⟨w.heap.size + 1 + 1 + 1, 0, none⟩) (by dsimp only; omega) _).setCell (p := ⟨w.heap.size + 1 + 1 + 1, 1, none⟩) (by dsimp only; omega) _), (cell_far_block (cell_far_block b0_0 (by dsimp only; omega)) (by dsimp only; omega)), (cell_far_block (cell_far_block b0_1 (by dsimp only; omega)) (by dsimp only; omega)), (cell_far_block (cell_far_block b1_0 (by dsimp only; omega)) (by dsimp only; omega)), (cell_far_block (cell_far_block b1_1 (by dsimp only; omega)) (by dsimp only; omega)), (cell_far_block (cell_far_block x1_0 (by dsimp only; omega)) (by dsimp only; omega)), (cell_far_block (cell_far_block x1_1 (by dsimp only; omega)) (by dsimp only; omega))⟩ | with_reducible exact ⟨((((UP.setCell (p := ⟨w.heap.size + 1 + 1, 0, none⟩) (by dsimp only; omega) _).setCell (p := ⟨w.heap.size + 1 + 1, 1, none⟩) (by dsimp only; omega) _).setCell (p := ⟨w.heap.size + 1 + 1 + 1, 0, none⟩) (by dsimp only; omega) _).setCell (p := ⟨w.heap.size + 1 + 1 + 1, 1, none⟩) (by dsimp only; omega) _), (cell_far_block (cell_far_block (cell_far_block (cell_far_block b0_0 (by dsimp only; omega)) (by dsimp only; omega)) (by dsimp only; omega)) (by dsimp only; omega)), (cell_far_block (cell_far_block (cell_far_block (cell_far_block b0_1 (by dsimp only; omega)) (by dsimp only; omega)) (by dsimp only; omega)) (by dsimp only; omega)), (cell_far_block (cell_far_block (cell_far_block (cell_far_block b1_0 (by dsimp only; omega)) (by dsimp only; omega)) (by dsimp only; omega)) (by dsimp only; omega)), (cell_far_block (cell_far_block (cell_far_block (cell_far_block b1_1 (by dsimp only; omega)) (by dsimp only; omega)) (by dsimp only; omega)) (by dsimp only; omega)), (cell_far_block (cell_far_block (cell_far_block (cell_far_block x1_0 (by dsimp only; omega)) (by dsimp only; omega)) (by dsimp only; omega)) (by dsimp only; omega)), (cell_far_block (cell_far_block (cell_far_block (cell_far_block x1_1 (by dsimp only; omega)) (by dsimp only; omega)) (by dsimp only; omega)) (by dsimp only; omega))⟩ | with_reducible exact ⟨((((UP.setCell (p := ⟨w.heap.size + 1 + 1 + 1, 0, none⟩) (by dsimp only; omega) _).setCell (p := ⟨w.heap.size + 1 + 1 + 1, 1, none⟩) (by dsimp only; omega) _).setCell (p := ⟨w.heap.size + 1 + 1, 0, none⟩) (by dsimp only; omega) _).setCell (p := ⟨w.heap.size + 1 + 1, 1, none⟩) (by dsimp only; omega) _), (cell_far_block (cell_far_block (cell_far_block (cell_far_block b0_0 (by dsimp only; omega)) (by dsimp only; omega)) (by dsimp only; omega)) (by dsimp only; omega)), (cell_far_block (cell_far_block (cell_far_block (cell_far_block b0_1 (by dsimp only; omega)) (by dsimp only; omega)) (by dsimp only; omega)) (by dsimp only; omega)), (cell_far_block (cell_far_block (cell_far_block (cell_far_block b1_0 (by dsimp only; omega)) (by dsimp only; omega)) (by dsimp only; omega)) (by dsimp only; omega)), (cell_far_block (cell_far_block (cell_far_block (cell_far_block b1_1 (by dsimp only; omega)) (by dsimp only; omega)) (by dsimp only; omega)) (by dsimp only; omega)), (cell_far_block (cell_far_block (cell_far_block (cell_far_block x1_0 (by dsimp only; omega)) (by dsimp only; omega)) (by dsimp only; omega)) (by dsimp only; omega)), (cell_far_block (cell_far_block (cell_far_block (cell_far_block x1_1 (by dsimp only; omega)) (by dsimp only; omega)) (by dsimp only; omega)) (by dsimp only; omega))⟩ | with_reducible exact ⟨(UP.alloc_drew _), (cell_alloc_drew b0_0), (cell_alloc_drew b0_1), (cell_alloc_drew b1_0), (cell_alloc_drew b1_1), (cell_alloc_drew x1_0), (cell_alloc_drew x1_1)⟩ | with_reducible exact ⟨(UP.alloc2_drew _ _), (cell_alloc2_drew b0_0), (cell_alloc2_drew b0_1), (cell_alloc2_drew b1_0), (cell_alloc2_drew b1_1), (cell_alloc2_drew x1_0), (cell_alloc2_drew x1_1)⟩ | (simp only [← World.setCell_drew]; first | with_reducible exact ⟨((UP.setCell (p := ⟨w.heap.size + 1 + 1, 0, none⟩) (by dsimp only; omega) _).setCell (p := ⟨w.heap.size + 1 + 1, 1, none⟩) (by dsimp only; omega) _), (cell_far_block (cell_far_block b0_0 (by dsimp only; omega)) (by dsimp only; omega)), (cell_far_block (cell_far_block b0_1 (by dsimp only; omega)) (by dsimp only; omega)), (cell_far_block (cell_far_block b1_0 (by dsimp only; omega)) (by dsimp only; omega)), (cell_far_block (cell_far_block b1_1 (by dsimp only; omega)) (by dsimp only; omega)), (cell_far_block (cell_far_block x1_0 (by dsimp only; omega)) (by dsimp only; omega)), (cell_far_block (cell_far_block x1_1 (by dsimp only; omega)) (by dsimp only; omega))⟩ | with_reducible exact ⟨((UP.setCell (p := ⟨w.heap.size + 1 + 1 + 1, 0, none⟩) (by dsimp only; omega) _).setCell (p := ⟨w.heap.size + 1 + 1 + 1, 1, none⟩) (by dsimp only; omega) _), (cell_far_block (cell_far_block b0_0 (by dsimp only; omega)) (by dsimp only; omega)), (cell_far_block (cell_far_block b0_1 (by dsimp only; omega)) (by dsimp only; omega)), (cell_far_block (cell_far_block b1_0 (by dsimp only; omega)) (by dsimp only; omega)), (cell_far_block (cell_far_block b1_1 (by dsimp only; omega)) (by dsimp only; omega)), (cell_far_block (cell_far_block x1_0 (by dsimp only; omega)) (by dsimp only; omega)), (cell_far_block (cell_far_block x1_1 (by dsimp only; omega)) (by dsimp only; omega))⟩ | with_reducible exact ⟨((((UP.setCell (p := ⟨w.heap.size + 1 + 1, 0, none⟩) (by dsimp only; omega) _).setCell (p := ⟨w.heap.size + 1 + 1, 1, none⟩) (by dsimp only; omega) _).setCell (p := ⟨w.heap.size + 1 + 1 + 1, 0, none⟩) (by dsimp only; omega) _).setCell (p := ⟨w.heap.size + 1 + 1 + 1, 1, none⟩) (by dsimp only; omega) _), (cell_far_block (cell_far_block (cell_far_block (cell_far_block b0_0 (by dsimp only; omega)) (by dsimp only; omega)) (by dsimp only; omega)) (by dsimp only; omega)), (cell_far_block (cell_far_block (cell_far_block (cell_far_block b0_1 (by dsimp only; omega)) (by dsimp only; omega)) (by dsimp only; omega)) (by dsimp only; omega)), (cell_far_block (cell_far_block (cell_far_block (cell_far_block b1_0 (by dsimp only; omega)) (by dsimp only; omega)) (by dsimp only; omega)) (by dsimp only; omega)), (cell_far_block (cell_far_block (cell_far_block (cell_far_block b1_1 (by dsimp only; omega)) (by dsimp only; omega)) (by dsimp only; omega)) (by dsimp only; omega)), (cell_far_block (cell_far_block (cell_far_block (cell_far_block x1_0 (by dsimp only; omega)) (by dsimp only; omega)) (by dsimp only; omega)) (by dsimp only; omega)), (cell_far_block (cell_far_block (cell_far_block (cell_far_block x1_1 (by dsimp only; omega)) (by dsimp only; omega)) (by dsimp only; omega)) (by dsimp only; omega))⟩ | with_reducible exact ⟨((((UP.setCell (p := ⟨w.heap.size + 1 + 1 + 1, 0, none⟩) (by dsimp only; omega) _).setCell (p := ⟨w.heap.size + 1 + 1 + 1, 1, none⟩) (by dsimp only; omega) _).setCell (p := ⟨w.heap.size + 1 + 1, 0, none⟩) (by dsimp only; omega) _).setCell (p := ⟨w.heap.size + 1 + 1, 1, none⟩) (by dsimp only; omega) _), (cell_far_block (cell_far_block (cell_far_block (cell_far_block b0_0 (by dsimp only; omega)) (by dsimp only; omega)) (by dsimp only; omega)) (by dsimp only; omega)), (cell_far_block (cell_far_block (cell_far_block (cell_far_block b0_1 (by dsimp only; omega)) (by dsimp only; omega)) (by dsimp only; omega)) (by dsimp only; omega)), (cell_far_block (cell_far_block (cell_far_block (cell_far_block b1_0 (by dsimp only; omega)) (by dsimp only; omega)) (by dsimp only; omega)) (by dsimp only; omega)), (cell_far_block (cell_far_block (cell_far_block (cell_far_block b1_1 (by dsimp only; omega)) (by dsimp only; omega)) (by dsimp only; omega)) (by dsimp only; omega)), (cell_far_block (cell_far_block (cell_far_block (cell_far_block x1_0 (by dsimp only; omega)) (by dsimp only; omega)) (by dsimp only; omega)) (by dsimp only; omega)), (cell_far_block (cell_far_block (cell_far_block (cell_far_block x1_1 (by dsimp only; omega)) (by dsimp only; omega)) (by dsimp only; omega)) (by dsimp only; omega))⟩) | go_keep)
    ((first
      | (go_at_call 180
         ((with_reducible refine (ref8_mul (Z1.wh LQ) H2 (by omega) (by omega)).mono ?_))
         rintro e W4 ⟨V4, rfl, p1, u4⟩
         replace hl := hl.up u4
         replace hm := hm.up u4
         replace H1 := H1.up u4
         replace H2 := H2.up u4
         replace n1 := n1.up u4
         replace z1 := z1.up u4
         replace Z1 := Z1.up u4
         try (replace p1 := p1.up u4)
         try (replace p2 := p2.up u4)
         try (replace p3 := p3.up u4)
         replace b0 := b0.up u4
         replace b1 := b1.up u4
         replace r0 := r0.up u4
         replace r1 := r1.up u4
         replace x1 := x1.up u4
         replace UP := UP.trans u4
         clear b0_0 b0_1 b1_0 b1_1 r0_0 r0_1 r1_0 r1_1 x1_0 x1_1
         obtain ⟨b0_0, b0_1⟩ := b0.c2
         obtain ⟨b1_0, b1_1⟩ := b1.c2
         obtain ⟨r0_0, r0_1⟩ := r0.c2
         replace r0_f0 := r0.free 0
         replace r0_f1 := r0.free 1
         obtain ⟨r1_0, r1_1⟩ := r1.c2
         replace r1_f0 := r1.free 0
         replace r1_f1 := r1.free 1
         obtain ⟨x1_0, x1_1⟩ := x1.c2
         clear u4)
      | (go_at_call 179
         ((with_reducible refine (ref8_neg (p1.wh LQY) (by omega)).mono ?_))
         rintro e W5 ⟨V5, rfl, p2, u5⟩
         replace hl := hl.up u5
         replace hm := hm.up u5
         replace H1 := H1.up u5
         replace H2 := H2.up u5
         replace n1 := n1.up u5
         replace z1 := z1.up u5
         replace Z1 := Z1.up u5
         try (replace p1 := p1.up u5)
         try (replace p2 := p2.up u5)
         try (replace p3 := p3.up u5)
         replace b0 := b0.up u5
         replace b1 := b1.up u5
         replace r0 := r0.up u5
         replace r1 := r1.up u5
         replace x1 := x1.up u5
         replace UP := UP.trans u5
         clear b0_0 b0_1 b1_0 b1_1 r0_0 r0_1 r1_0 r1_1 x1_0 x1_1
         obtain ⟨b0_0, b0_1⟩ := b0.c2
         obtain ⟨b1_0, b1_1⟩ := b1.c2
         obtain ⟨r0_0, r0_1⟩ := r0.c2
         replace r0_f0 := r0.free 0
         replace r0_f1 := r0.free 1
         obtain ⟨r1_0, r1_1⟩ := r1.c2
         replace r1_f0 := r1.free 0
         replace r1_f1 := r1.free 1
         obtain ⟨x1_0, x1_1⟩ := x1.c2
         clear u5)
      | (go_at_call 153
         ((with_reducible refine (ref8_add H1 (p2.wh LN) (by omega) (by omega)).mono ?_))
         rintro e W6 ⟨V6, rfl, p3, u6⟩
         replace hl := hl.up u6
         replace hm := hm.up u6
         replace H1 := H1.up u6
         replace H2 := H2.up u6
         replace n1 := n1.up u6
         replace z1 := z1.up u6
         replace Z1 := Z1.up u6
         try (replace p1 := p1.up u6)
         try (replace p2 := p2.up u6)
         try (replace p3 := p3.up u6)
         replace b0 := b0.up u6
         replace b1 := b1.up u6
         replace r0 := r0.up u6
         replace r1 := r1.up u6
         replace x1 := x1.up u6
         replace UP := UP.trans u6
         clear b0_0 b0_1 b1_0 b1_1 r0_0 r0_1 r1_0 r1_1 x1_0 x1_1
         obtain ⟨b0_0, b0_1⟩ := b0.c2
         obtain ⟨b1_0, b1_1⟩ := b1.c2
         obtain ⟨r0_0, r0_1⟩ := r0.c2
         replace r0_f0 := r0.free 0
         replace r0_f1 := r0.free 1
         obtain ⟨r1_0, r1_1⟩ := r1.c2
         replace r1_f0 := r1.free 0
         replace r1_f1 := r1.free 1
         obtain ⟨x1_0, x1_1⟩ := x1.c2
         clear u6
         obtain ⟨Xp3, rfl, p3⟩ := p3
         obtain ⟨Ap3, np3, cp3, rfl⟩ := p3.shape)))
   all_goals
    go_wp2
    first
     | exact end_fl2 rfl rfl rfl rfl Z1 ⟨_, rfl, p3⟩ r0 r1 trivial trivial trivial trivial (by omega) UP (by omega) (by omega)
     | exact end_fl2' rfl rfl rfl rfl Z1 ⟨_, rfl, p3⟩ r0 r1 trivial trivial trivial trivial (by omega) UP (by omega) (by omega)
 · by_cases hr : Wd.val l % Wd.val m = 0
   · have HR := Lib.hid hr
     have hk0 : (Wd.words (Wd.val l % Wd.val m)).length = 0 := by rw [hr, Wd.words_zero]; rfl
     have hk1 : decide ((0 : Int) < ((Wd.words (Wd.val l % Wd.val m)).length : Int)) = false := decide_eq_false (by omega)
     have hk2 : decide (0 < (Wd.words (Wd.val l % Wd.val m)).length) = false := decide_eq_false (by omega)
     clear hr hk0
     have UP : Up w ((((w.alloc (.cells #[.bool true, .slice A l.length c] 134)).alloc (.cells #[.bool false, .slice D m.length d] 134)).alloc (.cells #[.bool false, .slice none 0 0] 134)).alloc (.cells #[.bool false, .slice none 0 0] 134)) := ((((Up.refl w).alloc _).alloc _).alloc _).alloc _
     obtain ⟨b0, b1, r0, r1⟩ := bx_four 134 134 134 134 w [.bool true, .slice A l.length c] [.bool false, .slice D m.length d] [.bool false, .slice none 0 0] [.bool false, .slice none 0 0]
     go_enter Tryz.func157, Tryz.ntmps157
     go_wp2_with fail
     generalize ((((w.alloc (.cells #[.bool true, .slice A l.length c] 134)).alloc (.cells #[.bool false, .slice D m.length d] 134)).alloc (.cells #[.bool false, .slice none 0 0] 134)).alloc (.cells #[.bool false, .slice none 0 0] 134)) = W at *
     replace hl := hl.up UP
     replace hm := hm.up UP
     replace H1 := H1.up UP
     replace H2 := H2.up UP
     obtain ⟨b0_0, b0_1⟩ := b0.c2
     obtain ⟨b1_0, b1_1⟩ := b1.c2
     obtain ⟨r0_0, r0_1⟩ := r0.c2
     have r0_f0 := r0.free 0
     have r0_f1 := r0.free 1
     obtain ⟨r1_0, r1_1⟩ := r1.c2
     have r1_f0 := r1.free 0
     have r1_f1 := r1.free 1
     go_wp2_with fail
     ((with_reducible refine (ref_div hl hm (by omega) (by omega) HM.out).mono ?_))
     rintro e W1 ⟨V1, V1', rfl, n1, o1, k1, u1⟩
     have n2 := Ws.of_own o1 k1
     clear o1 k1
     replace hl := hl.up u1
     replace hm := hm.up u1
     replace H1 := H1.up u1
     replace H2 := H2.up u1
     replace b0 := b0.up u1
     replace b1 := b1.up u1
     replace r0 := r0.up u1
     replace r1 := r1.up u1
     replace UP := UP.trans u1
     clear b0_0 b0_1 b1_0 b1_1 r0_0 r0_1 r1_0 r1_1
     obtain ⟨b0_0, b0_1⟩ := b0.c2
     obtain ⟨b1_0, b1_1⟩ := b1.c2
     obtain ⟨r0_0, r0_1⟩ := r0.c2
     replace r0_f0 := r0.free 0
     replace r0_f1 := r0.free 1
     obtain ⟨r1_0, r1_1⟩ := r1.c2
     replace r1_f0 := r1.free 0
     replace r1_f1 := r1.free 1
     clear u1
     obtain ⟨A1, x1, c1, rfl⟩ := n1.shape
     obtain ⟨A2, c2, rfl⟩ := n2.form
     skip
     generalize (Wd.words (Wd.val l % Wd.val m)).length = kk at *
     clear n2
     go_wp2_with fail
     ((with_reducible refine (ref8_norm (Wh.mk true n1 (k := 10000001) (by omega)) (by omega)).mono ?_))
     rintro e W2 ⟨V2, rfl, z1, u2⟩
     replace hl := hl.up u2
     replace hm := hm.up u2
     replace H1 := H1.up u2
     replace H2 := H2.up u2
     replace n1 := n1.up u2
     replace b0 := b0.up u2
     replace b1 := b1.up u2
     replace r0 := r0.up u2
     replace r1 := r1.up u2
     replace UP := UP.trans u2
     clear b0_0 b0_1 b1_0 b1_1 r0_0 r0_1 r1_0 r1_1
     obtain ⟨b0_0, b0_1⟩ := b0.c2
     obtain ⟨b1_0, b1_1⟩ := b1.c2
     obtain ⟨r0_0, r0_1⟩ := r0.c2
     replace r0_f0 := r0.free 0
     replace r0_f1 := r0.free 1
     obtain ⟨r1_0, r1_1⟩ := r1.c2
     replace r1_f0 := r1.free 0
     replace r1_f1 := r1.free 1
     clear u2
     rw [Wd.val_words, HQE.out (.inr HR.out)] at z1
     obtain ⟨Xz1, rfl, z1⟩ := z1
     obtain ⟨Az1, nz1, cz1, rfl⟩ := z1.shape
     have b0_0a := fun O0 => (cell_alloc (o := O0) b0_0)
     have b0_1a := fun O0 => (cell_alloc (o := O0) b0_1)
     have b1_0a := fun O0 => (cell_alloc (o := O0) b1_0)
     have b1_1a := fun O0 => (cell_alloc (o := O0) b1_1)
     have r0_0a := fun O0 => (cell_alloc (o := O0) r0_0)
     have r0_f0a := fun O0 => (r0.up ((Up.refl W2).alloc O0)).free 0
     have r0_1a := fun O0 => (cell_alloc (o := O0) r0_1)
     have r0_f1a := fun O0 => (r0.up ((Up.refl W2).alloc O0)).free 1
     have r1_0a := fun O0 => (cell_alloc (o := O0) r1_0)
     have r1_f0a := fun O0 => (r1.up ((Up.refl W2).alloc O0)).free 0
     have r1_1a := fun O0 => (cell_alloc (o := O0) r1_1)
     have r1_f1a := fun O0 => (r1.up ((Up.refl W2).alloc O0)).free 1
     go_wp2_with fail
     clear b0_0a b0_1a b1_0a b1_1a r0_0a r0_f0a r0_1a r0_f1a r1_0a r1_f0a r1_1a r1_f1a
     have x1 := Bx.new 134 W2 [.bool (Wd.ngb q), .slice Az1 nz1 cz1]
     have b0_lt_x1 := b0.lt
     have b1_lt_x1 := b1.lt
     have r0_lt_x1 := r0.lt
     have r1_lt_x1 := r1.lt
     have nu := ((Up.refl W2).alloc (.cells #[.bool (Wd.ngb q), .slice Az1 nz1 cz1] 134))
     replace hl := hl.up nu
     replace hm := hm.up nu
     replace H1 := H1.up nu
     replace H2 := H2.up nu
     replace n1 := n1.up nu
     replace z1 := z1.up nu
     replace b0 := b0.up nu
     replace b1 := b1.up nu
     replace r0 := r0.up nu
     replace r1 := r1.up nu
     replace UP := UP.trans nu
     clear nu
     generalize (W2.alloc (.cells #[.bool (Wd.ngb q), .slice Az1 nz1 cz1] 134)) = W3 at *
     clear b0_0 b0_1 b1_0 b1_1 r0_0 r0_1 r1_0 r1_1
     obtain ⟨b0_0, b0_1⟩ := b0.c2
     obtain ⟨b1_0, b1_1⟩ := b1.c2
     obtain ⟨r0_0, r0_1⟩ := r0.c2
     replace r0_f0 := r0.free 0
     replace r0_f1 := r0.free 1
     obtain ⟨r1_0, r1_1⟩ := r1.c2
     replace r1_f0 := r1.free 0
     replace r1_f1 := r1.free 1
     obtain ⟨x1_0, x1_1⟩ := x1.c2
     have Z1 : Zw W3 (.agg #[.bool (Wd.ngb q), .slice Az1 nz1 cz1]) q := ⟨_, rfl, z1⟩
     replace hl := hl.up (Up.refl W3).drew
     replace hm := hm.up (Up.refl W3).drew
     replace H1 := H1.up (Up.refl W3).drew
     replace H2 := H2.up (Up.refl W3).drew
     replace n1 := n1.up (Up.refl W3).drew
     replace z1 := z1.up (Up.refl W3).drew
     replace Z1 := Z1.up (Up.refl W3).drew
     replace b0 := b0.up (Up.refl W3).drew
     replace b1 := b1.up (Up.refl W3).drew
     replace r0 := r0.up (Up.refl W3).drew
     replace r1 := r1.up (Up.refl W3).drew
     replace x1 := x1.up (Up.refl W3).drew
     replace UP := UP.trans (Up.refl W3).drew
     clear b0_0 b0_1 b1_0 b1_1 x1_0 x1_1
     obtain ⟨b0_0, b0_1⟩ := b0.c2
     obtain ⟨b1_0, b1_1⟩ := b1.c2
     obtain ⟨r0_0, r0_1⟩ := r0.c2
     have r0_f0 := r0.free 0
     have r0_f1 := r0.free 1
     obtain ⟨r1_0, r1_1⟩ := r1.c2
     have r1_f0 := r1.free 0
     have r1_f1 := r1.free 1
     obtain ⟨x1_0, x1_1⟩ := x1.c2
     go_region_held3 (fun w' => Up w w' ∧ w'.cell? ⟨w.heap.size, 0, none⟩ = some (.bool true) ∧ w'.cell? ⟨w.heap.size, 1, none⟩ = some (.slice A l.length c) ∧ w'.cell? ⟨w.heap.size + 1, 0, none⟩ = some (.bool false) ∧ w'.cell? ⟨w.heap.size + 1, 1, none⟩ = some (.slice D m.length d) ∧ w'.cell? ⟨W2.heap.size, 0, none⟩ = some (.bool (Wd.ngb q)) ∧ w'.cell? ⟨W2.heap.size, 1, none⟩ = some (.slice Az1 nz1 cz1))
      (first | with_reducible exact ⟨UP, b0_0, b0_1, b1_0, b1_1, x1_0, x1_1⟩ | with_reducible exact ⟨((UP.setCell (p := ⟨w.heap.size + 1 + 1, 0, none⟩) (by dsimp only; omega) _).setCell (p := ⟨w.heap.size + 1 + 1, 1, none⟩) (by dsimp only; omega) _), (cell_far_block (cell_far_block b0_0 (by dsimp only; omega)) (by dsimp only; omega)), (cell_far_block (cell_far_block b0_1 (by dsimp only; omega)) (by dsimp only; omega)), (cell_far_block (cell_far_block b1_0 (by dsimp only; omega)) (by dsimp only; omega)), (cell_far_block (cell_far_block b1_1 (by dsimp only; omega)) (by dsimp only; omega)), (cell_far_block (cell_far_block x1_0 (by dsimp only; omega)) (by dsimp only; omega)), (cell_far_block (cell_far_block x1_1 (by dsimp only; omega)) (by dsimp only; omega))⟩ | with_reducible exact ⟨((UP.setCell (p := ⟨w.heap.size + 1 + 1 + 1, 0, none⟩) (by dsimp only; omega) _).setCell (p := ⟨w.heap.size + 1 + 1 + 1, 1, none⟩) (by dsimp only; omega) _), (cell_far_block (cell_far_block b0_0 (by dsimp only; omega)) (by dsimp only; omega)), (cell_far_block (cell_far_block b0_1 (by dsimp only; omega)) (by dsimp only; omega)), (cell_far_block (cell_far_block b1_0 (by dsimp only; omega)) (by dsimp only; omega)), (cell_far_block (cell_far_block b1_1 (by dsimp only; omega)) (by dsimp only; omega)), (cell_far_block (cell_far_block x1_0 (by dsimp only; omega)) (by dsimp only; omega)), (cell_far_block (cell_far_block x1_1 (by dsimp only; omega)) (by dsimp only; omega))⟩ | with_reducible exact ⟨((((UP.setCell (p := ⟨w.heap.size + 1 + 1, 0, none⟩) (by dsimp only; omega) _).setCell (p := ⟨w.heap.size + 1 + 1, 1, none⟩) (by dsimp only; omega) _).setCell (p := ⟨w.heap.size + 1 + 1 + 1, 0, none⟩) (by dsimp only; omega) _).setCell (p := ⟨w.heap.size + 1 + 1 + 1, 1, none⟩) (by dsimp only; omega) _), (cell_far_block (cell_far_block (cell_far_block (cell_far_block b0_0 (by dsimp only; omega)) (by dsimp only; omega)) (by dsimp only; omega)) (by dsimp only; omega)), (cell_far_block (cell_far_block (cell_far_block (cell_far_block b0_1 (by dsimp only; omega)) (by dsimp only; omega)) (by dsimp only; omega)) (by dsimp only; omega)), (cell_far_block (cell_far_block (cell_far_block (cell_far_block b1_0 (by dsimp only; omega)) (by dsimp only; omega)) (by dsimp only; omega)) (by dsimp only; omega)), (cell_far_block (cell_far_block (cell_far_block (cell_far_block b1_1 (by dsimp only; omega)) (by dsimp only; omega)) (by dsimp only; omega)) (by dsimp only; omega)), (cell_far_block (cell_far_block (cell_far_block (cell_far_block x1_0 (by dsimp only; omega)) (by dsimp only; omega)) (by dsimp only; omega)) (by dsimp only; omega)), (cell_far_block (cell_far_block (cell_far_block (cell_far_block x1_1 (by dsimp only; omega)) (by dsimp only; omega)) (by dsimp only; omega)) (by dsimp only; omega))⟩ | with_reducible exact ⟨((((UP.setCell (p := ⟨w.heap.size + 1 + 1 + 1, 0, none⟩) (by dsimp only; omega) _).setCell (p := ⟨w.heap.size + 1 + 1 + 1, 1, none⟩) (by dsimp only; omega) _).setCell (p := ⟨w.heap.size + 1 + 1, 0, none⟩) (by dsimp only; omega) _).setCell (p := ⟨w.heap.size + 1 + 1, 1, none⟩) (by dsimp only; omega) _), (cell_far_block (cell_far_block (cell_far_block (cell_far_block b0_0 (by dsimp only; omega)) (by dsimp only; omega)) (by dsimp only; omega)) (by dsimp only; omega)), (cell_far_block (cell_far_block (cell_far_block (cell_far_block b0_1 (by dsimp only; omega)) (by dsimp only; omega)) (by dsimp only; omega)) (by dsimp only; omega)), (cell_far_block (cell_far_block (cell_far_block (cell_far_block b1_0 (by dsimp only; omega)) (by dsimp only; omega)) (by dsimp only; omega)) (by dsimp only; omega)), (cell_far_block (cell_far_block (cell_far_block (cell_far_block b1_1 (by dsimp only; omega)) (by dsimp only; omega)) (by dsimp only; omega)) (by dsimp only; omega)), (cell_far_block (cell_far_block (cell_far_block (cell_far_block x1_0 (by dsimp only; omega)) (by dsimp only; omega)) (by dsimp only; omega)) (by dsimp only; omega)), (cell_far_block (cell_far_block (cell_far_block (cell_far_block x1_1 (by dsimp only; omega)) (by dsimp only; omega)) (by dsimp only; omega)) (by dsimp only; omega))⟩ | with_reducible exact ⟨(UP.alloc_drew _), (cell_alloc_drew b0_0), (cell_alloc_drew b0_1), (cell_alloc_drew b1_0), (cell_alloc_drew b1_1), (cell_alloc_drew x1_0), (cell_alloc_drew x1_1)⟩ | with_reducible exact ⟨(UP.alloc2_drew _ _), (cell_alloc2_drew b0_0), (cell_alloc2_drew b0_1), (cell_alloc2_drew b1_0), (cell_alloc2_drew b1_1), (cell_alloc2_drew x1_0), (cell_alloc2_drew x1_1)⟩ | (simp only [← World.setCell_drew]; first | with_reducible exact ⟨((UP.setCell (p := ⟨w.heap.size + 1 + 1, 0, none⟩) (by dsimp only; omega) _).setCell (p := ⟨w.heap.size + 1 + 1, 1, none⟩) (by dsimp only; omega) _), (cell_far_block (cell_far_block b0_0 (by dsimp only; omega)) (by dsimp only; omega)), (cell_far_block (cell_far_block b0_1 (by dsimp only; omega)) (by dsimp only; omega)), (cell_far_block (cell_far_block b1_0 (by dsimp only; omega)) (by dsimp only; omega)), (cell_far_block (cell_far_block b1_1 (by dsimp only; omega)) (by dsimp only; omega)), (cell_far_block (cell_far_block x1_0 (by dsimp only; omega)) (by dsimp only; omega)), (cell_far_block (cell_far_block x1_1 (by dsimp only; omega)) (by dsimp only; omega))⟩ | with_reducible exact ⟨((UP.setCell (p := ⟨w.heap.size + 1 + 1 + 1, 0, none⟩) (by dsimp only; omega) _).setCell (p := ⟨w.heap.size + 1 + 1 + 1, 1, none⟩) (by dsimp only; omega) _), (cell_far_block (cell_far_block b0_0 (by dsimp only; omega)) (by dsimp only; omega)), (cell_far_block (cell_far_block b0_1 (by dsimp only; omega)) (by dsimp only; omega)), (cell_far_block (cell_far_block b1_0 (by dsimp only; omega)) (by dsimp only; omega)), (cell_far_block (cell_far_block b1_1 (by dsimp only; omega)) (by dsimp only; omega)), (cell_far_block (cell_far_block x1_0 (by dsimp only; omega)) (by dsimp only; omega)), (cell_far_block (cell_far_block x1_1 (by dsimp only; omega)) (by dsimp only; omega))⟩ | with_reducible exact ⟨((((UP.setCell (p := ⟨w.heap.size + 1 + 1, 0, none⟩) (by dsimp only; omega) _).setCell (p := ⟨w.heap.size + 1 + 1, 1, none⟩) (by dsimp only; omega) _).setCell (p := ⟨w.heap.size + 1 + 1 + 1, 0, none⟩) (by dsimp only; omega) _).setCell (p := ⟨w.heap.size + 1 + 1 + 1, 1, none⟩) (by dsimp only; omega) _), (cell_far_block (cell_far_block (cell_far_block (cell_far_block b0_0 (by dsimp only; omega)) (by dsimp only; omega)) (by dsimp only; omega)) (by dsimp only; omega)), (cell_far_block (cell_far_block (cell_far_block (cell_far_block b0_1 (by dsimp only; omega)) (by dsimp only; omega)) (by dsimp only; omega)) (by dsimp only; omega)), (cell_far_block (cell_far_block (cell_far_block (cell_far_block b1_0 (by dsimp only; omega)) (by dsimp only; omega)) (by dsimp only; omega)) (by dsimp only; omega)), (cell_far_block (cell_far_block (cell_far_block (cell_far_block b1_1 (by dsimp only; omega)) (by dsimp only; omega)) (by dsimp only; omega)) (by dsimp only; omega)), (cell_far_block (cell_far_block (cell_far_block (cell_far_block x1_0 (by dsimp only; omega)) (by dsimp only; omega)) (by dsimp only; omega)) (by dsimp only; omega)), (cell_far_block (cell_far_block (cell_far_block (cell_far_block x1_1 (by dsimp only; omega)) (by dsimp only; omega)) (by dsimp only; omega)) (by dsimp only; omega))⟩ | with_reducible exact ⟨((((UP.setCell (p := ⟨w.heap.size + 1 + 1 + 1, 0, none⟩) (by dsimp only; omega) _).setCell (p := ⟨w.heap.size + 1 + 1 + 1, 1, none⟩) (by dsimp only; omega) _).setCell (p := ⟨w.heap.size + 1 + 1, 0, none⟩) (by dsimp only; omega) _).setCell (p := ⟨w.heap.size + 1 + 1, 1, none⟩) (by dsimp only; omega) _), (cell_far_block (cell_far_block (cell_far_block (cell_far_block b0_0 (by dsimp only; omega)) (by dsimp only; omega)) (by dsimp only; omega)) (by dsimp only; omega)), (cell_far_block (cell_far_block (cell_far_block (cell_far_block b0_1 (by dsimp only; omega)) (by dsimp only; omega)) (by dsimp only; omega)) (by dsimp only; omega)), (cell_far_block (cell_far_block (cell_far_block (cell_far_block b1_0 (by dsimp only; omega)) (by dsimp only; omega)) (by dsimp only; omega)) (by dsimp only; omega)), (cell_far_block (cell_far_block (cell_far_block (cell_far_block b1_1 (by dsimp only; omega)) (by dsimp only; omega)) (by dsimp only; omega)) (by dsimp only; omega)), (cell_far_block (cell_far_block (cell_far_block (cell_far_block x1_0 (by dsimp only; omega)) (by dsimp only; omega)) (by dsimp only; omega)) (by dsimp only; omega)), (cell_far_block (cell_far_block (cell_far_block (cell_far_block x1_1 (by dsimp only; omega)) (by dsimp only; omega)) (by dsimp only; omega)) (by dsimp only; omega))⟩) | go_keep)
      ((first
        | (go_at_call 180
           ((with_reducible refine (ref8_mul (Z1.wh LQ) H2 (by omega) (by omega)).mono ?_))
           rintro e W4 ⟨V4, rfl, p1, u4⟩
           replace hl := hl.up u4
           replace hm := hm.up u4
           replace H1 := H1.up u4
           replace H2 := H2.up u4
           replace n1 := n1.up u4
           replace z1 := z1.up u4
           replace Z1 := Z1.up u4
           try (replace p1 := p1.up u4)
           try (replace p2 := p2.up u4)
           try (replace p3 := p3.up u4)
           replace b0 := b0.up u4
           replace b1 := b1.up u4
           replace r0 := r0.up u4
           replace r1 := r1.up u4
           replace x1 := x1.up u4
           replace UP := UP.trans u4
           clear b0_0 b0_1 b1_0 b1_1 r0_0 r0_1 r1_0 r1_1 x1_0 x1_1
           obtain ⟨b0_0, b0_1⟩ := b0.c2
           obtain ⟨b1_0, b1_1⟩ := b1.c2
           obtain ⟨r0_0, r0_1⟩ := r0.c2
           replace r0_f0 := r0.free 0
           replace r0_f1 := r0.free 1
           obtain ⟨r1_0, r1_1⟩ := r1.c2
           replace r1_f0 := r1.free 0
           replace r1_f1 := r1.free 1
           obtain ⟨x1_0, x1_1⟩ := x1.c2
           clear u4)
        | (go_at_call 179
           ((with_reducible refine (ref8_neg (p1.wh LQY) (by omega)).mono ?_))
           rintro e W5 ⟨V5, rfl, p2, u5⟩
           replace hl := hl.up u5
           replace hm := hm.up u5
           replace H1 := H1.up u5
           replace H2 := H2.up u5
           replace n1 := n1.up u5
           replace z1 := z1.up u5
           replace Z1 := Z1.up u5
           try (replace p1 := p1.up u5)
           try (replace p2 := p2.up u5)
           try (replace p3 := p3.up u5)
           replace b0 := b0.up u5
           replace b1 := b1.up u5
           replace r0 := r0.up u5
           replace r1 := r1.up u5
           replace x1 := x1.up u5
           replace UP := UP.trans u5
           clear b0_0 b0_1 b1_0 b1_1 r0_0 r0_1 r1_0 r1_1 x1_0 x1_1
           obtain ⟨b0_0, b0_1⟩ := b0.c2
           obtain ⟨b1_0, b1_1⟩ := b1.c2
           obtain ⟨r0_0, r0_1⟩ := r0.c2
           replace r0_f0 := r0.free 0
           replace r0_f1 := r0.free 1
           obtain ⟨r1_0, r1_1⟩ := r1.c2
           replace r1_f0 := r1.free 0
           replace r1_f1 := r1.free 1
           obtain ⟨x1_0, x1_1⟩ := x1.c2
           clear u5)
        | (go_at_call 153
           ((with_reducible refine (ref8_add H1 (p2.wh LN) (by omega) (by omega)).mono ?_))
           rintro e W6 ⟨V6, rfl, p3, u6⟩
           replace hl := hl.up u6
           replace hm := hm.up u6
           replace H1 := H1.up u6
           replace H2 := H2.up u6
           replace n1 := n1.up u6
           replace z1 := z1.up u6
           replace Z1 := Z1.up u6
           try (replace p1 := p1.up u6)
           try (replace p2 := p2.up u6)
           try (replace p3 := p3.up u6)
           replace b0 := b0.up u6
           replace b1 := b1.up u6
           replace r0 := r0.up u6
           replace r1 := r1.up u6
           replace x1 := x1.up u6
           replace UP := UP.trans u6
           clear b0_0 b0_1 b1_0 b1_1 r0_0 r0_1 r1_0 r1_1 x1_0 x1_1
           obtain ⟨b0_0, b0_1⟩ := b0.c2
           obtain ⟨b1_0, b1_1⟩ := b1.c2
           obtain ⟨r0_0, r0_1⟩ := r0.c2
           replace r0_f0 := r0.free 0
           replace r0_f1 := r0.free 1
           obtain ⟨r1_0, r1_1⟩ := r1.c2
           replace r1_f0 := r1.free 0
           replace r1_f1 := r1.free 1
           obtain ⟨x1_0, x1_1⟩ := x1.c2
           clear u6
           obtain ⟨Xp3, rfl, p3⟩ := p3
           obtain ⟨Ap3, np3, cp3, rfl⟩ := p3.shape)))
     all_goals
      go_wp2
      first
       | exact end_fl2 rfl rfl rfl rfl Z1 ⟨_, rfl, p3⟩ r0 r1 trivial trivial trivial trivial (by omega) UP (by omega) (by omega)
       | exact end_fl2' rfl rfl rfl rfl Z1 ⟨_, rfl, p3⟩ r0 r1 trivial trivial trivial trivial (by omega) UP (by omega) (by omega)
   · have HR : Hid (Wd.val l % Wd.val m ≠ 0) := Lib.hid hr
     have hk0 : (Wd.words (Wd.val l % Wd.val m)).length ≠ 0 := fun e => hr (Wd.words_length_zero.1 e)
     have hk1 : decide ((0 : Int) < ((Wd.words (Wd.val l % Wd.val m)).length : Int)) = true := decide_eq_true (by omega)
     have hk2 : 0 < (Wd.words (Wd.val l % Wd.val m)).length := by omega
     clear hr hk0
     have UP : Up w ((((w.alloc (.cells #[.bool true, .slice A l.length c] 134)).alloc (.cells #[.bool false, .slice D m.length d] 134)).alloc (.cells #[.bool false, .slice none 0 0] 134)).alloc (.cells #[.bool false, .slice none 0 0] 134)) := ((((Up.refl w).alloc _).alloc _).alloc _).alloc _
     obtain ⟨b0, b1, r0, r1⟩ := bx_four 134 134 134 134 w [.bool true, .slice A l.length c] [.bool false, .slice D m.length d] [.bool false, .slice none 0 0] [.bool false, .slice none 0 0]
     go_enter Tryz.func157, Tryz.ntmps157
     go_wp2_with fail
     generalize ((((w.alloc (.cells #[.bool true, .slice A l.length c] 134)).alloc (.cells #[.bool false, .slice D m.length d] 134)).alloc (.cells #[.bool false, .slice none 0 0] 134)).alloc (.cells #[.bool false, .slice none 0 0] 134)) = W at *
     replace hl := hl.up UP
     replace hm := hm.up UP
     replace H1 := H1.up UP
     replace H2 := H2.up UP
     obtain ⟨b0_0, b0_1⟩ := b0.c2
     obtain ⟨b1_0, b1_1⟩ := b1.c2
     obtain ⟨r0_0, r0_1⟩ := r0.c2
     have r0_f0 := r0.free 0
     have r0_f1 := r0.free 1
     obtain ⟨r1_0, r1_1⟩ := r1.c2
     have r1_f0 := r1.free 0
     have r1_f1 := r1.free 1
     go_wp2_with fail
     ((with_reducible refine (ref_div hl hm (by omega) (by omega) HM.out).mono ?_))
     rintro e W1 ⟨V1, V1', rfl, n1, o1, k1, u1⟩
     have n2 := Ws.of_own o1 k1
     clear o1 k1
     replace hl := hl.up u1
     replace hm := hm.up u1
     replace H1 := H1.up u1
     replace H2 := H2.up u1
     replace b0 := b0.up u1
     replace b1 := b1.up u1
     replace r0 := r0.up u1
     replace r1 := r1.up u1
     replace UP := UP.trans u1
     clear b0_0 b0_1 b1_0 b1_1 r0_0 r0_1 r1_0 r1_1
     obtain ⟨b0_0, b0_1⟩ := b0.c2
     obtain ⟨b1_0, b1_1⟩ := b1.c2
     obtain ⟨r0_0, r0_1⟩ := r0.c2
     replace r0_f0 := r0.free 0
     replace r0_f1 := r0.free 1
     obtain ⟨r1_0, r1_1⟩ := r1.c2
     replace r1_f0 := r1.free 0
     replace r1_f1 := r1.free 1
     clear u1
     obtain ⟨A1, x1, c1, rfl⟩ := n1.shape
     obtain ⟨A2, c2, rfl⟩ := n2.form
     skip
     generalize (Wd.words (Wd.val l % Wd.val m)).length = kk at *
     clear n2
     have b0_0a := fun O0 => (cell_alloc (o := O0) b0_0)
     have b0_1a := fun O0 => (cell_alloc (o := O0) b0_1)
     have b1_0a := fun O0 => (cell_alloc (o := O0) b1_0)
     have b1_1a := fun O0 => (cell_alloc (o := O0) b1_1)
     have r0_0a := fun O0 => (cell_alloc (o := O0) r0_0)
     have r0_f0a := fun O0 => (r0.up ((Up.refl W1).alloc O0)).free 0
     have r0_1a := fun O0 => (cell_alloc (o := O0) r0_1)
     have r0_f1a := fun O0 => (r0.up ((Up.refl W1).alloc O0)).free 1
     have r1_0a := fun O0 => (cell_alloc (o := O0) r1_0)
     have r1_f0a := fun O0 => (r1.up ((Up.refl W1).alloc O0)).free 0
     have r1_1a := fun O0 => (cell_alloc (o := O0) r1_1)
     have r1_f1a := fun O0 => (r1.up ((Up.refl W1).alloc O0)).free 1
     go_wp2_with fail
     clear b0_0a b0_1a b1_0a b1_1a r0_0a r0_f0a r0_1a r0_f1a r1_0a r1_f0a r1_1a r1_f1a
     have y1 := Bx.new 122 W1 [.int .u32 1]
     have b0_lt_y1 := b0.lt
     have b1_lt_y1 := b1.lt
     have r0_lt_y1 := r0.lt
     have r1_lt_y1 := r1.lt
     have nu := ((Up.refl W1).alloc (.cells #[.int .u32 1] 122))
     replace hl := hl.up nu
     replace hm := hm.up nu
     replace H1 := H1.up nu
     replace H2 := H2.up nu
     replace n1 := n1.up nu
     replace b0 := b0.up nu
     replace b1 := b1.up nu
     replace r0 := r0.up nu
     replace r1 := r1.up nu
     replace UP := UP.trans nu
     clear nu
     generalize (W1.alloc (.cells #[.int .u32 1] 122)) = W2 at *
     clear b0_0 b0_1 b1_0 b1_1 r0_0 r0_1 r1_0 r1_1
     obtain ⟨b0_0, b0_1⟩ := b0.c2
     obtain ⟨b1_0, b1_1⟩ := b1.c2
     obtain ⟨r0_0, r0_1⟩ := r0.c2
     replace r0_f0 := r0.free 0
     replace r0_f1 := r0.free 1
     obtain ⟨r1_0, r1_1⟩ := r1.c2
     replace r1_f0 := r1.free 0
     replace r1_f1 := r1.free 1
     have y1_0 := y1.c1
     ((with_reducible refine (ref_add n1 (bx_ws1 y1) (by omega) (by simp)).mono ?_))
     intro e W3 ret3
     obtain ⟨V3, rfl, b, u3⟩ := ret3.ws
     clear ret3
     replace hl := hl.up u3
     replace hm := hm.up u3
     replace H1 := H1.up u3
     replace H2 := H2.up u3
     replace n1 := n1.up u3
     replace b0 := b0.up u3
     replace b1 := b1.up u3
     replace r0 := r0.up u3
     replace r1 := r1.up u3
     replace y1 := y1.up u3
     replace UP := UP.trans u3
     clear b0_0 b0_1 b1_0 b1_1 r0_0 r0_1 r1_0 r1_1 y1_0
     obtain ⟨b0_0, b0_1⟩ := b0.c2
     obtain ⟨b1_0, b1_1⟩ := b1.c2
     obtain ⟨r0_0, r0_1⟩ := r0.c2
     replace r0_f0 := r0.free 0
     replace r0_f1 := r0.free 1
     obtain ⟨r1_0, r1_1⟩ := r1.c2
     replace r1_f0 := r1.free 0
     replace r1_f1 := r1.free 1
     have y1_0 := y1.c1
     clear u3
     rw [Wd.val_words, show Wd.val [1] = 1 from rfl] at b
     obtain ⟨A3, x3, c3, rfl⟩ := b.shape
     go_wp2_with fail
     ((with_reducible refine (ref8_norm (Wh.mk true b (k := 10000001) (by omega)) (by omega)).mono ?_))
     rintro e W4 ⟨V4, rfl, z1, u4⟩
     replace hl := hl.up u4
     replace hm := hm.up u4
     replace H1 := H1.up u4
     replace H2 := H2.up u4
     replace n1 := n1.up u4
     replace b := b.up u4
     replace b0 := b0.up u4
     replace b1 := b1.up u4
     replace r0 := r0.up u4
     replace r1 := r1.up u4
     replace y1 := y1.up u4
     replace UP := UP.trans u4
     clear b0_0 b0_1 b1_0 b1_1 r0_0 r0_1 r1_0 r1_1 y1_0
     obtain ⟨b0_0, b0_1⟩ := b0.c2
     obtain ⟨b1_0, b1_1⟩ := b1.c2
     obtain ⟨r0_0, r0_1⟩ := r0.c2
     replace r0_f0 := r0.free 0
     replace r0_f1 := r0.free 1
     obtain ⟨r1_0, r1_1⟩ := r1.c2
     replace r1_f0 := r1.free 0
     replace r1_f1 := r1.free 1
     have y1_0 := y1.c1
     clear u4
     rw [Wd.val_words, HQM.out ⟨by trivial, HR.out⟩] at z1
     obtain ⟨Xz1, rfl, z1⟩ := z1
     obtain ⟨Az1, nz1, cz1, rfl⟩ := z1.shape
     have b0_0a := fun O0 => (cell_alloc (o := O0) b0_0)
     have b0_1a := fun O0 => (cell_alloc (o := O0) b0_1)
     have b1_0a := fun O0 => (cell_alloc (o := O0) b1_0)
     have b1_1a := fun O0 => (cell_alloc (o := O0) b1_1)
     have r0_0a := fun O0 => (cell_alloc (o := O0) r0_0)
     have r0_f0a := fun O0 => (r0.up ((Up.refl W4).alloc O0)).free 0
     have r0_1a := fun O0 => (cell_alloc (o := O0) r0_1)
     have r0_f1a := fun O0 => (r0.up ((Up.refl W4).alloc O0)).free 1
     have r1_0a := fun O0 => (cell_alloc (o := O0) r1_0)
     have r1_f0a := fun O0 => (r1.up ((Up.refl W4).alloc O0)).free 0
     have r1_1a := fun O0 => (cell_alloc (o := O0) r1_1)
     have r1_f1a := fun O0 => (r1.up ((Up.refl W4).alloc O0)).free 1
     have y1_0a := fun O0 => (cell_alloc (o := O0) y1_0)
     go_wp2_with fail
     clear b0_0a b0_1a b1_0a b1_1a r0_0a r0_f0a r0_1a r0_f1a r1_0a r1_f0a r1_1a r1_f1a y1_0a
     have x1 := Bx.new 134 W4 [.bool (Wd.ngb q), .slice Az1 nz1 cz1]
     have b0_lt_x1 := b0.lt
     have b1_lt_x1 := b1.lt
     have r0_lt_x1 := r0.lt
     have r1_lt_x1 := r1.lt
     have y1_lt_x1 := y1.lt
     have nu := ((Up.refl W4).alloc (.cells #[.bool (Wd.ngb q), .slice Az1 nz1 cz1] 134))
     replace hl := hl.up nu
     replace hm := hm.up nu
     replace H1 := H1.up nu
     replace H2 := H2.up nu
     replace n1 := n1.up nu
     replace b := b.up nu
     replace z1 := z1.up nu
     replace b0 := b0.up nu
     replace b1 := b1.up nu
     replace r0 := r0.up nu
     replace r1 := r1.up nu
     replace y1 := y1.up nu
     replace UP := UP.trans nu
     clear nu
     generalize (W4.alloc (.cells #[.bool (Wd.ngb q), .slice Az1 nz1 cz1] 134)) = W5 at *
     clear b0_0 b0_1 b1_0 b1_1 r0_0 r0_1 r1_0 r1_1 y1_0
     obtain ⟨b0_0, b0_1⟩ := b0.c2
     obtain ⟨b1_0, b1_1⟩ := b1.c2
     obtain ⟨r0_0, r0_1⟩ := r0.c2
     replace r0_f0 := r0.free 0
     replace r0_f1 := r0.free 1
     obtain ⟨r1_0, r1_1⟩ := r1.c2
     replace r1_f0 := r1.free 0
     replace r1_f1 := r1.free 1
     have y1_0 := y1.c1
     obtain ⟨x1_0, x1_1⟩ := x1.c2
     have Z1 : Zw W5 (.agg #[.bool (Wd.ngb q), .slice Az1 nz1 cz1]) q := ⟨_, rfl, z1⟩
     replace hl := hl.up (Up.refl W5).drew
     replace hm := hm.up (Up.refl W5).drew
     replace H1 := H1.up (Up.refl W5).drew
     replace H2 := H2.up (Up.refl W5).drew
     replace n1 := n1.up (Up.refl W5).drew
     replace b := b.up (Up.refl W5).drew
     replace z1 := z1.up (Up.refl W5).drew
     replace Z1 := Z1.up (Up.refl W5).drew
     replace b0 := b0.up (Up.refl W5).drew
     replace b1 := b1.up (Up.refl W5).drew
     replace r0 := r0.up (Up.refl W5).drew
     replace r1 := r1.up (Up.refl W5).drew
     replace y1 := y1.up (Up.refl W5).drew
     replace x1 := x1.up (Up.refl W5).drew
     replace UP := UP.trans (Up.refl W5).drew
     clear b0_0 b0_1 b1_0 b1_1 y1_0 x1_0 x1_1
     obtain ⟨b0_0, b0_1⟩ := b0.c2
     obtain ⟨b1_0, b1_1⟩ := b1.c2
     obtain ⟨r0_0, r0_1⟩ := r0.c2
     have r0_f0 := r0.free 0
     have r0_f1 := r0.free 1
     obtain ⟨r1_0, r1_1⟩ := r1.c2
     have r1_f0 := r1.free 0
     have r1_f1 := r1.free 1
     have y1_0 := y1.c1
     obtain ⟨x1_0, x1_1⟩ := x1.c2
     go_region_held3 (fun w' => Up w w' ∧ w'.cell? ⟨w.heap.size, 0, none⟩ = some (.bool true) ∧ w'.cell? ⟨w.heap.size, 1, none⟩ = some (.slice A l.length c) ∧ w'.cell? ⟨w.heap.size + 1, 0, none⟩ = some (.bool false) ∧ w'.cell? ⟨w.heap.size + 1, 1, none⟩ = some (.slice D m.length d) ∧ w'.cell? ⟨W1.heap.size, 0, none⟩ = some (.int .u32 1) ∧ w'.cell? ⟨W4.heap.size, 0, none⟩ = some (.bool (Wd.ngb q)) ∧ w'.cell? ⟨W4.heap.size, 1, none⟩ = some (.slice Az1 nz1 cz1))
      (first | with_reducible exact ⟨UP, b0_0, b0_1, b1_0, b1_1, y1_0, x1_0, x1_1⟩ | with_reducible exact ⟨((UP.setCell (p := ⟨w.heap.size + 1 + 1, 0, none⟩) (by dsimp only; omega) _).setCell (p := ⟨w.heap.size + 1 + 1, 1, none⟩) (by dsimp only; omega) _), (cell_far_block (cell_far_block b0_0 (by dsimp only; omega)) (by dsimp only; omega)), (cell_far_block (cell_far_block b0_1 (by dsimp only; omega)) (by dsimp only; omega)), (cell_far_block (cell_far_block b1_0 (by dsimp only; omega)) (by dsimp only; omega)), (cell_far_block (cell_far_block b1_1 (by dsimp only; omega)) (by dsimp only; omega)), (cell_far_block (cell_far_block y1_0 (by dsimp only; omega)) (by dsimp only; omega)), (cell_far_block (cell_far_block x1_0 (by dsimp only; omega)) (by dsimp only; omega)), (cell_far_block (cell_far_block x1_1 (by dsimp only; omega)) (by dsimp only; omega))⟩ | with_reducible exact ⟨((UP.setCell (p := ⟨w.heap.size + 1 + 1 + 1, 0, none⟩) (by dsimp only; omega) _).setCell (p := ⟨w.heap.size + 1 + 1 + 1, 1, none⟩) (by dsimp only; omega) _), (cell_far_block (cell_far_block b0_0 (by dsimp only; omega)) (by dsimp only; omega)), (cell_far_block (cell_far_block b0_1 (by dsimp only; omega)) (by dsimp only; omega)), (cell_far_block (cell_far_block b1_0 (by dsimp only; omega)) (by dsimp only; omega)), (cell_far_block (cell_far_block b1_1 (by dsimp only; omega)) (by dsimp only; omega)), (cell_far_block (cell_far_block y1_0 (by dsimp only; omega)) (by dsimp only; omega)), (cell_far_block (cell_far_block x1_0 (by dsimp only; omega)) (by dsimp only; omega)), (cell_far_block (cell_far_block x1_1 (by dsimp only; omega)) (by dsimp only; omega))⟩ | with_reducible exact ⟨((((UP.setCell (p := ⟨w.heap.size + 1 + 1, 0, none⟩) (by dsimp only; omega) _).setCell (p := ⟨w.heap.size + 1 + 1, 1, none⟩) (by dsimp only; omega) _).setCell (p := ⟨w.heap.size + 1 + 1 + 1, 0, none⟩) (by dsimp only; omega) _).setCell (p := ⟨w.heap.size + 1 + 1 + 1, 1, none⟩) (by dsimp only; omega) _), (cell_far_block (cell_far_block (cell_far_block (cell_far_block b0_0 (by dsimp only; omega)) (by dsimp only; omega)) (by dsimp only; omega)) (by dsimp only; omega)), (cell_far_block (cell_far_block (cell_far_block (cell_far_block b0_1 (by dsimp only; omega)) (by dsimp only; omega)) (by dsimp only; omega)) (by dsimp only; omega)), (cell_far_block (cell_far_block (cell_far_block (cell_far_block b1_0 (by dsimp only; omega)) (by dsimp only; omega)) (by dsimp only; omega)) (by dsimp only; omega)), (cell_far_block (cell_far_block (cell_far_block (cell_far_block b1_1 (by dsimp only; omega)) (by dsimp only; omega)) (by dsimp only; omega)) (by dsimp only; omega)), (cell_far_block (cell_far_block (cell_far_block (cell_far_block y1_0 (by dsimp only; omega)) (by dsimp only; omega)) (by dsimp only; omega)) (by dsimp only; omega)), (cell_far_block (cell_far_block (cell_far_block (cell_far_block x1_0 (by dsimp only; omega)) (by dsimp only; omega)) (by dsimp only; omega)) (by dsimp only; omega)), (cell_far_block (cell_far_block (cell_far_block (cell_far_block x1_1 (by dsimp only; omega)) (by dsimp only; omega)) (by dsimp only; omega)) (by dsimp only; omega))⟩ | with_reducible exact ⟨((((UP.setCell (p := ⟨w.heap.size + 1 + 1 + 1, 0, none⟩) (by dsimp only; omega) _).setCell (p := ⟨w.heap.size + 1 + 1 + 1, 1, none⟩) (by dsimp only; omega) _).setCell (p := ⟨w.heap.size + 1 + 1, 0, none⟩) (by dsimp only; omega) _).setCell (p := ⟨w.heap.size + 1 + 1, 1, none⟩) (by dsimp only; omega) _), (cell_far_block (cell_far_block (cell_far_block (cell_far_block b0_0 (by dsimp only; omega)) (by dsimp only; omega)) (by dsimp only; omega)) (by dsimp only; omega)), (cell_far_block (cell_far_block (cell_far_block (cell_far_block b0_1 (by dsimp only; omega)) (by dsimp only; omega)) (by dsimp only; omega)) (by dsimp only; omega)), (cell_far_block (cell_far_block (cell_far_block (cell_far_block b1_0 (by dsimp only; omega)) (by dsimp only; omega)) (by dsimp only; omega)) (by dsimp only; omega)), (cell_far_block (cell_far_block (cell_far_block (cell_far_block b1_1 (by dsimp only; omega)) (by dsimp only; omega)) (by dsimp only; omega)) (by dsimp only; omega)), (cell_far_block (cell_far_block (cell_far_block (cell_far_block y1_0 (by dsimp only; omega)) (by dsimp only; omega)) (by dsimp only; omega)) (by dsimp only; omega)), (cell_far_block (cell_far_block (cell_far_block (cell_far_block x1_0 (by dsimp only; omega)) (by dsimp only; omega)) (by dsimp only; omega)) (by dsimp only; omega)), (cell_far_block (cell_far_block (cell_far_block (cell_far_block x1_1 (by dsimp only; omega)) (by dsimp only; omega)) (by dsimp only; omega)) (by dsimp only; omega))⟩ | with_reducible exact ⟨(UP.alloc_drew _), (cell_alloc_drew b0_0), (cell_alloc_drew b0_1), (cell_alloc_drew b1_0), (cell_alloc_drew b1_1), (cell_alloc_drew y1_0), (cell_alloc_drew x1_0), (cell_alloc_drew x1_1)⟩ | with_reducible exact ⟨(UP.alloc2_drew _ _), (cell_alloc2_drew b0_0), (cell_alloc2_drew b0_1), (cell_alloc2_drew b1_0), (cell_alloc2_drew b1_1), (cell_alloc2_drew y1_0), (cell_alloc2_drew x1_0), (cell_alloc2_drew x1_1)⟩ | (simp only [← World.setCell_drew]; first | with_reducible exact ⟨((UP.setCell (p := ⟨w.heap.size + 1 + 1, 0, none⟩) (by dsimp only; omega) _).setCell (p := ⟨w.heap.size + 1 + 1, 1, none⟩) (by dsimp only; omega) _), (cell_far_block (cell_far_block b0_0 (by dsimp only; omega)) (by dsimp only; omega)), (cell_far_block (cell_far_block b0_1 (by dsimp only; omega)) (by dsimp only; omega)), (cell_far_block (cell_far_block b1_0 (by dsimp only; omega)) (by dsimp only; omega)), (cell_far_block (cell_far_block b1_1 (by dsimp only; omega)) (by dsimp only; omega)), (cell_far_block (cell_far_block y1_0 (by dsimp only; omega)) (by dsimp only; omega)), (cell_far_block (cell_far_block x1_0 (by dsimp only; omega)) (by dsimp only; omega)), (cell_far_block (cell_far_block x1_1 (by dsimp only; omega)) (by dsimp only; omega))⟩ | with_reducible exact ⟨((UP.setCell (p := ⟨w.heap.size + 1 + 1 + 1, 0, none⟩) (by dsimp only; omega) _).setCell (p := ⟨w.heap.size + 1 + 1 + 1, 1, none⟩) (by dsimp only; omega) _), (cell_far_block (cell_far_block b0_0 (by dsimp only; omega)) (by dsimp only; omega)), (cell_far_block (cell_far_block b0_1 (by dsimp only; omega)) (by dsimp only; omega)), (cell_far_block (cell_far_block b1_0 (by dsimp only; omega)) (by dsimp only; omega)), (cell_far_block (cell_far_block b1_1 (by dsimp only; omega)) (by dsimp only; omega)), (cell_far_block (cell_far_block y1_0 (by dsimp only; omega)) (by dsimp only; omega)), (cell_far_block (cell_far_block x1_0 (by dsimp only; omega)) (by dsimp only; omega)), (cell_far_block (cell_far_block x1_1 (by dsimp only; omega)) (by dsimp only; omega))⟩ | with_reducible exact ⟨((((UP.setCell (p := ⟨w.heap.size + 1 + 1, 0, none⟩) (by dsimp only; omega) _).setCell (p := ⟨w.heap.size + 1 + 1, 1, none⟩) (by dsimp only; omega) _).setCell (p := ⟨w.heap.size + 1 + 1 + 1, 0, none⟩) (by dsimp only; omega) _).setCell (p := ⟨w.heap.size + 1 + 1 + 1, 1, none⟩) (by dsimp only; omega) _), (cell_far_block (cell_far_block (cell_far_block (cell_far_block b0_0 (by dsimp only; omega)) (by dsimp only; omega)) (by dsimp only; omega)) (by dsimp only; omega)), (cell_far_block (cell_far_block (cell_far_block (cell_far_block b0_1 (by dsimp only; omega)) (by dsimp only; omega)) (by dsimp only; omega)) (by dsimp only; omega)), (cell_far_block (cell_far_block (cell_far_block (cell_far_block b1_0 (by dsimp only; omega)) (by dsimp only; omega)) (by dsimp only; omega)) (by dsimp only; omega)), (cell_far_block (cell_far_block (cell_far_block (cell_far_block b1_1 (by dsimp only; omega)) (by dsimp only; omega)) (by dsimp only; omega)) (by dsimp only; omega)), (cell_far_block (cell_far_block (cell_far_block (cell_far_block y1_0 (by dsimp only; omega)) (by dsimp only; omega)) (by dsimp only; omega)) (by dsimp only; omega)), (cell_far_block (cell_far_block (cell_far_block (cell_far_block x1_0 (by dsimp only; omega)) (by dsimp only; omega)) (by dsimp only; omega)) (by dsimp only; omega)), (cell_far_block (cell_far_block (cell_far_block (cell_far_block x1_1 (by dsimp only; omega)) (by dsimp only; omega)) (by dsimp only; omega)) (by dsimp only; omega))⟩ | with_reducible exact ⟨((((UP.setCell (p := ⟨w.heap.size + 1 + 1 + 1, 0, none⟩) (by dsimp only; omega) _).setCell (p := ⟨w.heap.size + 1 + 1 + 1, 1, none⟩) (by dsimp only; omega) _).setCell (p := ⟨w.heap.size + 1 + 1, 0, none⟩) (by dsimp only; omega) _).setCell (p := ⟨w.heap.size + 1 + 1, 1, none⟩) (by dsimp only; omega) _), (cell_far_block (cell_far_block (cell_far_block (cell_far_block b0_0 (by dsimp only; omega)) (by dsimp only; omega)) (by dsimp only; omega)) (by dsimp only; omega)), (cell_far_block (cell_far_block (cell_far_block (cell_far_block b0_1 (by dsimp only; omega)) (by dsimp only; omega)) (by dsimp only; omega)) (by dsimp only; omega)), (cell_far_block (cell_far_block (cell_far_block (cell_far_block b1_0 (by dsimp only; omega)) (by dsimp only; omega)) (by dsimp only; omega)) (by dsimp only; omega)), (cell_far_block (cell_far_block (cell_far_block (cell_far_block b1_1 (by dsimp only; omega)) (by dsimp only; omega)) (by dsimp only; omega)) (by dsimp only; omega)), (cell_far_block (cell_far_block (cell_far_block (cell_far_block y1_0 (by dsimp only; omega)) (by dsimp only; omega)) (by dsimp only; omega)) (by dsimp only; omega)), (cell_far_block (cell_far_block (cell_far_block (cell_far_block x1_0 (by dsimp only; omega)) (by dsimp only; omega)) (by dsimp only; omega)) (by dsimp only; omega)), (cell_far_block (cell_far_block (cell_far_block (cell_far_block x1_1 (by dsimp only; omega)) (by dsimp only; omega)) (by dsimp only; omega)) (by dsimp only; omega))⟩) | go_keep)
      ((first
        | (go_at_call 180
           ((with_reducible refine (ref8_mul (Z1.wh LQ) H2 (by omega) (by omega)).mono ?_))
           rintro e W6 ⟨V6, rfl, p1, u6⟩
           replace hl := hl.up u6
           replace hm := hm.up u6
           replace H1 := H1.up u6
           replace H2 := H2.up u6
           replace n1 := n1.up u6
           replace b := b.up u6
           replace z1 := z1.up u6
           replace Z1 := Z1.up u6
           try (replace p1 := p1.up u6)
           try (replace p2 := p2.up u6)
           try (replace p3 := p3.up u6)
           replace b0 := b0.up u6
           replace b1 := b1.up u6
           replace r0 := r0.up u6
           replace r1 := r1.up u6
           replace y1 := y1.up u6
           replace x1 := x1.up u6
           replace UP := UP.trans u6
           clear b0_0 b0_1 b1_0 b1_1 r0_0 r0_1 r1_0 r1_1 y1_0 x1_0 x1_1
           obtain ⟨b0_0, b0_1⟩ := b0.c2
           obtain ⟨b1_0, b1_1⟩ := b1.c2
           obtain ⟨r0_0, r0_1⟩ := r0.c2
           replace r0_f0 := r0.free 0
           replace r0_f1 := r0.free 1
           obtain ⟨r1_0, r1_1⟩ := r1.c2
           replace r1_f0 := r1.free 0
           replace r1_f1 := r1.free 1
           have y1_0 := y1.c1
           obtain ⟨x1_0, x1_1⟩ := x1.c2
           clear u6)
        | (go_at_call 179
           ((with_reducible refine (ref8_neg (p1.wh LQY) (by omega)).mono ?_))
           rintro e W7 ⟨V7, rfl, p2, u7⟩
           replace hl := hl.up u7
           replace hm := hm.up u7
           replace H1 := H1.up u7
           replace H2 := H2.up u7
           replace n1 := n1.up u7
           replace b := b.up u7
           replace z1 := z1.up u7
           replace Z1 := Z1.up u7
           try (replace p1 := p1.up u7)
           try (replace p2 := p2.up u7)
           try (replace p3 := p3.up u7)
           replace b0 := b0.up u7
           replace b1 := b1.up u7
           replace r0 := r0.up u7
           replace r1 := r1.up u7
           replace y1 := y1.up u7
           replace x1 := x1.up u7
           replace UP := UP.trans u7
           clear b0_0 b0_1 b1_0 b1_1 r0_0 r0_1 r1_0 r1_1 y1_0 x1_0 x1_1
           obtain ⟨b0_0, b0_1⟩ := b0.c2
           obtain ⟨b1_0, b1_1⟩ := b1.c2
           obtain ⟨r0_0, r0_1⟩ := r0.c2
           replace r0_f0 := r0.free 0
           replace r0_f1 := r0.free 1
           obtain ⟨r1_0, r1_1⟩ := r1.c2
           replace r1_f0 := r1.free 0
           replace r1_f1 := r1.free 1
           have y1_0 := y1.c1
           obtain ⟨x1_0, x1_1⟩ := x1.c2
           clear u7)
        | (go_at_call 153
           ((with_reducible refine (ref8_add H1 (p2.wh LN) (by omega) (by omega)).mono ?_))
           rintro e W8 ⟨V8, rfl, p3, u8⟩
           replace hl := hl.up u8
           replace hm := hm.up u8
           replace H1 := H1.up u8
           replace H2 := H2.up u8
           replace n1 := n1.up u8
           replace b := b.up u8
           replace z1 := z1.up u8
           replace Z1 := Z1.up u8
           try (replace p1 := p1.up u8)
           try (replace p2 := p2.up u8)
           try (replace p3 := p3.up u8)
           replace b0 := b0.up u8
           replace b1 := b1.up u8
           replace r0 := r0.up u8
           replace r1 := r1.up u8
           replace y1 := y1.up u8
           replace x1 := x1.up u8
           replace UP := UP.trans u8
           clear b0_0 b0_1 b1_0 b1_1 r0_0 r0_1 r1_0 r1_1 y1_0 x1_0 x1_1
           obtain ⟨b0_0, b0_1⟩ := b0.c2
           obtain ⟨b1_0, b1_1⟩ := b1.c2
           obtain ⟨r0_0, r0_1⟩ := r0.c2
           replace r0_f0 := r0.free 0
           replace r0_f1 := r0.free 1
           obtain ⟨r1_0, r1_1⟩ := r1.c2
           replace r1_f0 := r1.free 0
           replace r1_f1 := r1.free 1
           have y1_0 := y1.c1
           obtain ⟨x1_0, x1_1⟩ := x1.c2
           clear u8
           obtain ⟨Xp3, rfl, p3⟩ := p3
           obtain ⟨Ap3, np3, cp3, rfl⟩ := p3.shape)))
     all_goals
      go_wp2
      first
       | exact end_fl2 rfl rfl rfl rfl Z1 ⟨_, rfl, p3⟩ r0 r1 trivial trivial trivial trivial (by omega) UP (by omega) (by omega)
       | exact end_fl2' rfl rfl rfl rfl Z1 ⟨_, rfl, p3⟩ r0 r1 trivial trivial trivial trivial (by omega) UP (by omega) (by omega)
end Go.Proofs.YtmmcffceeahemaaGreat
