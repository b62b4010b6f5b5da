/-
  Layer 8: whole numbers with a sign.
-/
import Derived.Test.YtjkkeilmnklpcaaRatMath
import Derived.Test.YtjkkeilmnklpcaaBox
import Derived.Test.YtjkkeilmnklpcaaRefCommon
import Derived.Deep.RegionHeld3
set_option linter.unusedVariables false
set_option linter.unusedSimpArgs false
namespace Go.Proofs.Ytjkkeilmnklpcaa
open Go.RowKit

/-- A whole number that may be spelled in any way, of at most so many words. -/
def Wh (w : World) (v : Value) (z : Int) (k : Nat) : Prop := ∃ s u l, v = .agg #[.bool s, u] ∧ Ws w u l ∧ Wd.iv s (Wd.val l) = z ∧ l.length ≤ k
theorem Wh.up {w w' : World} {v : Value} {z : Int} {k : Nat} (h : Wh w v z k) (hu : Up w w') : Wh w' v z k := by
  obtain ⟨s, u, l, h1, h2, h3⟩ := h
  exact ⟨s, u, l, h1, h2.up hu, h3⟩
theorem Wh.mono {w : World} {v : Value} {z : Int} {j k : Nat} (h : Wh w v z j) (hk : j ≤ k) : Wh w v z k := by
  obtain ⟨s, u, l, h1, h2, h3, h4⟩ := h
  exact ⟨s, u, l, h1, h2, h3, Nat.le_trans h4 hk⟩
/-- The right one. -/
def Zw (w : World) (v : Value) (z : Int) : Prop := ∃ u, v = .agg #[.bool (Wd.ngb z), u] ∧ Ws w u (Wd.words z.natAbs)
theorem Zw.up {w w' : World} {v : Value} {z : Int} (h : Zw w v z) (hu : Up w w') : Zw w' v z := by
  obtain ⟨u, h1, h2⟩ := h
  exact ⟨u, h1, h2.up hu⟩
theorem Zw.wh {w : World} {v : Value} {z : Int} {k : Nat} (h : Zw w v z) (hk : Wd.Lz z k) : Wh w v z k := by
  obtain ⟨u, h1, h2⟩ := h
  exact ⟨_, u, _, h1, h2, by rw [Wd.val_words, Wd.iv_ngb], hk⟩
theorem Zw.mk {w : World} {u : Value} {n : Nat} {z : Int} {s : Bool} (h : Ws w u (Wd.words n)) (hs : s = Wd.ngb z) (hz : z.natAbs = n) : Zw w (.agg #[.bool s, u]) z := by
  subst hs hz
  exact ⟨u, rfl, h⟩
theorem Wh.lz {w : World} {v : Value} {z : Int} {k : Nat} (h : Wh w v z k) : Wd.Lz z k := by
  obtain ⟨s, u, l, h1, h2, h3, h4⟩ := h
  subst h3
  exact Wd.Lz.iv (Nat.le_trans (Wd.words_val_length h2.ok) h4)
/-- What comes back: a right whole number. -/
def RetZ (z : Int) (w : World) (e : Ending) (w' : World) : Prop := ∃ v, e = .returned v ∧ Zw w' v z ∧ Up w w'

/-- It ends with a struct of two cells, stored into the result's. -/
theorem end_z {fn : Func} {a : Act} {w0 w : World} {t : Tmp} {g : Nat} {z : Int} {s : Bool} {u p q : Value} (hres : fn.results = #[.cell t 65]) (ht : a.tmps.getD t undef = .pointer (some ⟨g, 0, none⟩)) (hd : a.defers = [])
    (h : Zw w (.agg #[.bool s, u]) z) (r : Bx 65 w g [p, q]) (np : NoWord p) (nq : NoWord q) (hu : Up w0 w) (hg : w0.heap.size ≤ g) :
    bodyPost Try.prog fn (RetZ z w0) .ret a ((w.setCell ⟨g, 0, none⟩ (.bool s)).setCell ⟨g, 1, none⟩ u) := by
  obtain ⟨v, he, hw⟩ := h
  simp at he
  obtain ⟨rfl, rfl⟩ := he
  have r1 : Bx 65 (w.setCell ⟨g, 0, none⟩ (.bool (Wd.ngb z))) g [.bool (Wd.ngb z), q] := r.set 0 _
  have w1 := hw.far r (by simp [np, nq]) 0 (.bool (Wd.ngb z))
  have w2 := w1.far r1 (by simp [nq]; trivial) 1 u
  have r2 : Bx 65 ((w.setCell ⟨g, 0, none⟩ (.bool (Wd.ngb z))).setCell ⟨g, 1, none⟩ u) g [.bool (Wd.ngb z), u] := r1.set 1 _
  exact bodyPost_ret (run_res_cell hres ht agg_whole size_whole r2 rfl) hd ⟨_, rfl, ⟨u, rfl, w2⟩, (hu.setCell (p := ⟨g, 0, none⟩) hg _).setCell (p := ⟨g, 1, none⟩) hg _⟩

theorem whole_signed {v : Value} {s : Bool} {n : Nat} {w : World} (h : Ws w v (Wd.words n)) (hl : (Wd.words n).length ≤ 1000000000) : Calls Try.prog 119 #[.bool s, v] w (RetZ (Wd.iv s n) w) := by
  have HN := Lib.hid (Wd.ngb_words s n)
  obtain ⟨A, c, rfl⟩ := h.form
  generalize hk : (Wd.words n).length = k at *
  have HK := Lib.hid hk
  clear hk
  cases s
  · go_enter Try.func119, Try.ntmps119
    go_wp2
    exact bodyPost_ret (v := .agg #[.bool false, .slice A k c]) (by simp [results, Try.results119, go_sem]) rfl ⟨_, rfl, Zw.mk (h.up ((Up.refl w).alloc _)) (by rw [HN.out]; rfl) (Wd.iv_abs _ _), (Up.refl w).alloc _⟩
  · go_enter Try.func119, Try.ntmps119
    go_wp2
    exact bodyPost_ret (v := .agg #[.bool (decide (0 < k)), .slice A k c]) (by simp [results, Try.results119, go_sem]) rfl ⟨_, rfl, Zw.mk (h.up ((Up.refl w).alloc _)) (by rw [HN.out]; rfl) (Wd.iv_abs _ _), (Up.refl w).alloc _⟩

set_option maxHeartbeats 1600000 in
theorem whole_norm {v : Value} {z : Int} {k : Nat} {w : World} (h : Wh w v z k) (hk : k ≤ 1000000) : Calls Try.prog 85 #[v] w (RetZ z w) := by
  obtain ⟨s, u, l, rfl, hl, hz, hle⟩ := h
  have hlen := Nat.le_trans (Wd.words_val_length hl.ok) hle
  obtain ⟨A, c, rfl⟩ := hl.form
  subst hz
  have UP : Up w ((w.alloc (.cells #[.bool s, .slice A l.length c] 65)).alloc (.cells #[.bool false, .slice none 0 0] 65)) := ((Up.refl w).alloc _).alloc _
  obtain ⟨b0, r0⟩ := bx_two 65 65 w [.bool s, .slice A l.length c] [.bool false, .slice none 0 0]
  go_enter Try.func85, Try.ntmps85
  go_wp2_with fail
  generalize ((w.alloc (.cells #[.bool s, .slice A l.length c] 65)).alloc (.cells #[.bool false, .slice none 0 0] 65)) = W at *
  replace hl := hl.up UP
  have b0_0 := b0.cell (i := 0) rfl
  have b0_1 := b0.cell (i := 1) rfl
  have r0_0 := r0.cell (i := 0) rfl
  have r0_1 := r0.cell (i := 1) rfl
  replace hl := hl.up (Up.refl W).drew
  replace b0 := b0.up (Up.refl W).drew
  replace r0 := r0.up (Up.refl W).drew
  replace UP := UP.trans (Up.refl W).drew
  replace b0_0 := b0.cell (i := 0) rfl
  replace b0_1 := b0.cell (i := 1) rfl
  have r0_0 := r0.cell (i := 0) rfl
  have r0_1 := r0.cell (i := 1) rfl
  have r0_f0 := r0.free 0
  have r0_f1 := r0.free 1
  go_region_held3 (fun w' => Up w w' ∧ w'.cell? ⟨w.heap.size, 0, none⟩ = some (.bool s) ∧ w'.cell? ⟨w.heap.size, 1, none⟩ = some (.slice A l.length c))
      (first | with_reducible exact ⟨UP, b0_0, b0_1⟩ | with_reducible exact ⟨((UP.setCell (p := ⟨w.heap.size + 1, 0, none⟩) (by dsimp only; omega) _).setCell (p := ⟨w.heap.size + 1, 1, none⟩) (by dsimp only; omega) _), (cell_far_block (cell_far_block b0_0 (by dsimp only; omega)) (by dsimp only; omega)), (cell_far_block (cell_far_block b0_1 (by dsimp only; omega)) (by dsimp only; omega))⟩ | with_reducible exact ⟨(UP.alloc_drew _), (cell_alloc_drew b0_0), (cell_alloc_drew b0_1)⟩ | with_reducible exact ⟨(UP.alloc2_drew _ _), (cell_alloc2_drew b0_0), (cell_alloc2_drew b0_1)⟩ | (simp only [← World.setCell_drew]; with_reducible exact ⟨((UP.setCell (p := ⟨w.heap.size + 1, 0, none⟩) (by dsimp only; omega) _).setCell (p := ⟨w.heap.size + 1, 1, none⟩) (by dsimp only; omega) _), (cell_far_block (cell_far_block b0_0 (by dsimp only; omega)) (by dsimp only; omega)), (cell_far_block (cell_far_block b0_1 (by dsimp only; omega)) (by dsimp only; omega))⟩) | go_keep)
      ((first
        | (go_at_call 120
           ((with_reducible refine (nat_norm hl (by omega)).mono ?_))
           intro e W1 ret1
           obtain ⟨V1, rfl, n1, u1⟩ := ret1.ws
           clear ret1
           replace hl := hl.up u1
           try (replace n1 := n1.up u1)
           try (replace z1 := z1.up u1)
           replace b0 := b0.up u1
           replace r0 := r0.up u1
           replace UP := UP.trans u1
           replace b0_0 := b0.cell (i := 0) rfl
           replace b0_1 := b0.cell (i := 1) rfl
           replace r0_0 := r0.cell (i := 0) rfl
           replace r0_1 := r0.cell (i := 1) rfl
           replace r0_f0 := r0.free 0
           replace r0_f1 := r0.free 1
           clear u1)
        | (go_at_call 119
           ((with_reducible refine (whole_signed n1 (by omega)).mono ?_))
           rintro e W2 ⟨V2, rfl, z1, u2⟩
           replace hl := hl.up u2
           try (replace n1 := n1.up u2)
           try (replace z1 := z1.up u2)
           replace b0 := b0.up u2
           replace r0 := r0.up u2
           replace UP := UP.trans u2
           replace b0_0 := b0.cell (i := 0) rfl
           replace b0_1 := b0.cell (i := 1) rfl
           replace r0_0 := r0.cell (i := 0) rfl
           replace r0_1 := r0.cell (i := 1) rfl
           replace r0_f0 := r0.free 0
           replace r0_f1 := r0.free 1
           clear u2
           obtain ⟨Xz1, rfl, z1⟩ := z1
           obtain ⟨Az1, nz1, cz1, rfl⟩ := z1.shape)))
  go_wp2
  exact end_z rfl rfl rfl ⟨_, rfl, z1⟩ r0 trivial trivial UP (by omega)

/-- What comes back: a number, in a world that has only grown. -/
def RetN (z : Int) (w : World) (e : Ending) (w' : World) : Prop := e = .returned (.int .i64 z) ∧ Up w w'

theorem Zw.kw {w w' : World} {v : Value} {z : Int} (h : Zw w v z) (hu : Kw w w') : Zw w' v z := by
  obtain ⟨u, h1, h2⟩ := h
  exact ⟨u, h1, h2.kw hu⟩
theorem Wh.kw {w w' : World} {v : Value} {z : Int} {k : Nat} (h : Wh w v z k) (hu : Kw w w') : Wh w' v z k := by
  obtain ⟨s, u, l, h1, h2, h3⟩ := h
  exact ⟨s, u, l, h1, h2.kw hu, h3⟩

set_option maxHeartbeats 1600000 in
theorem whole_neg {v : Value} {z : Int} {k : Nat} {w : World} (h : Wh w v z k) (hk : k ≤ 1000000) : Calls Try.prog 105 #[v] w (RetZ (-z) w) := by
  obtain ⟨s, u, l, rfl, hl, hz, hle⟩ := h
  have hlen := Nat.le_trans (Wd.words_val_length hl.ok) hle
  obtain ⟨A, c, rfl⟩ := hl.form
  subst hz
  rw [← Wd.iv_not]
  have UP : Up w ((w.alloc (.cells #[.bool s, .slice A l.length c] 65)).alloc (.cells #[.bool false, .slice none 0 0] 65)) := ((Up.refl w).alloc _).alloc _
  obtain ⟨b0, r0⟩ := bx_two 65 65 w [.bool s, .slice A l.length c] [.bool false, .slice none 0 0]
  go_enter Try.func105, Try.ntmps105
  go_wp2_with fail
  generalize ((w.alloc (.cells #[.bool s, .slice A l.length c] 65)).alloc (.cells #[.bool false, .slice none 0 0] 65)) = W at *
  replace hl := hl.up UP
  have b0_0 := b0.cell (i := 0) rfl
  have b0_1 := b0.cell (i := 1) rfl
  have r0_0 := r0.cell (i := 0) rfl
  have r0_1 := r0.cell (i := 1) rfl
  replace hl := hl.up (Up.refl W).drew
  replace b0 := b0.up (Up.refl W).drew
  replace r0 := r0.up (Up.refl W).drew
  replace UP := UP.trans (Up.refl W).drew
  replace b0_0 := b0.cell (i := 0) rfl
  replace b0_1 := b0.cell (i := 1) rfl
  have r0_0 := r0.cell (i := 0) rfl
  have r0_1 := r0.cell (i := 1) rfl
  have r0_f0 := r0.free 0
  have r0_f1 := r0.free 1
  go_region_held3 (fun w' => Up w w' ∧ w'.cell? ⟨w.heap.size, 0, none⟩ = some (.bool s) ∧ w'.cell? ⟨w.heap.size, 1, none⟩ = some (.slice A l.length c))
      (first | with_reducible exact ⟨UP, b0_0, b0_1⟩ | with_reducible exact ⟨((UP.setCell (p := ⟨w.heap.size + 1, 0, none⟩) (by dsimp only; omega) _).setCell (p := ⟨w.heap.size + 1, 1, none⟩) (by dsimp only; omega) _), (cell_far_block (cell_far_block b0_0 (by dsimp only; omega)) (by dsimp only; omega)), (cell_far_block (cell_far_block b0_1 (by dsimp only; omega)) (by dsimp only; omega))⟩ | with_reducible exact ⟨(UP.alloc_drew _), (cell_alloc_drew b0_0), (cell_alloc_drew b0_1)⟩ | with_reducible exact ⟨(UP.alloc2_drew _ _), (cell_alloc2_drew b0_0), (cell_alloc2_drew b0_1)⟩ | (simp only [← World.setCell_drew]; with_reducible exact ⟨((UP.setCell (p := ⟨w.heap.size + 1, 0, none⟩) (by dsimp only; omega) _).setCell (p := ⟨w.heap.size + 1, 1, none⟩) (by dsimp only; omega) _), (cell_far_block (cell_far_block b0_0 (by dsimp only; omega)) (by dsimp only; omega)), (cell_far_block (cell_far_block b0_1 (by dsimp only; omega)) (by dsimp only; omega))⟩) | go_keep)
      ((first
        | (go_at_call 120
           ((with_reducible refine (nat_norm hl (by omega)).mono ?_))
           intro e W1 ret1
           obtain ⟨V1, rfl, n1, u1⟩ := ret1.ws
           clear ret1
           replace hl := hl.up u1
           try (replace n1 := n1.up u1)
           try (replace z1 := z1.up u1)
           replace b0 := b0.up u1
           replace r0 := r0.up u1
           replace UP := UP.trans u1
           replace b0_0 := b0.cell (i := 0) rfl
           replace b0_1 := b0.cell (i := 1) rfl
           replace r0_0 := r0.cell (i := 0) rfl
           replace r0_1 := r0.cell (i := 1) rfl
           replace r0_f0 := r0.free 0
           replace r0_f1 := r0.free 1
           clear u1)
        | (go_at_call 119
           ((with_reducible refine (whole_signed n1 (by omega)).mono ?_))
           rintro e W2 ⟨V2, rfl, z1, u2⟩
           replace hl := hl.up u2
           try (replace n1 := n1.up u2)
           try (replace z1 := z1.up u2)
           replace b0 := b0.up u2
           replace r0 := r0.up u2
           replace UP := UP.trans u2
           replace b0_0 := b0.cell (i := 0) rfl
           replace b0_1 := b0.cell (i := 1) rfl
           replace r0_0 := r0.cell (i := 0) rfl
           replace r0_1 := r0.cell (i := 1) rfl
           replace r0_f0 := r0.free 0
           replace r0_f1 := r0.free 1
           clear u2
           obtain ⟨Xz1, rfl, z1⟩ := z1
           obtain ⟨Az1, nz1, cz1, rfl⟩ := z1.shape)))
  go_wp2
  exact end_z rfl rfl rfl ⟨_, rfl, z1⟩ r0 trivial trivial UP (by omega)

set_option maxHeartbeats 1600000 in
theorem whole_mul {v u : Value} {z y : Int} {j k : Nat} {w : World} (h : Wh w v z j) (h' : Wh w u y k) (hj : j ≤ 1000000) (hk : k ≤ 1000000) : Calls Try.prog 94 #[v, u] w (RetZ (z * y) w) := by
  obtain ⟨s, v1, l, rfl, hl, hz, hle⟩ := h
  obtain ⟨t, v2, m, rfl, hm, hy, hme⟩ := h'
  have hlen := Wd.words_mul_le (Wd.words_val_length hl.ok) (Wd.words_val_length hm.ok)
  obtain ⟨A, c, rfl⟩ := hl.form
  obtain ⟨D, d, rfl⟩ := hm.form
  subst hz hy
  rw [← Wd.iv_mul]
  have UP : Up w (((w.alloc (.cells #[.bool s, .slice A l.length c] 65)).alloc (.cells #[.bool t, .slice D m.length d] 65)).alloc (.cells #[.bool false, .slice none 0 0] 65)) := (((Up.refl w).alloc _).alloc _).alloc _
  obtain ⟨b0, b1, r0⟩ := bx_three 65 65 65 w [.bool s, .slice A l.length c] [.bool t, .slice D m.length d] [.bool false, .slice none 0 0]
  go_enter Try.func94, Try.ntmps94
  go_wp2_with fail
  generalize (((w.alloc (.cells #[.bool s, .slice A l.length c] 65)).alloc (.cells #[.bool t, .slice D m.length d] 65)).alloc (.cells #[.bool false, .slice none 0 0] 65)) = W at *
  replace hl := hl.up UP
  replace hm := hm.up UP
  have b0_0 := b0.cell (i := 0) rfl
  have b0_1 := b0.cell (i := 1) rfl
  have b1_0 := b1.cell (i := 0) rfl
  have b1_1 := b1.cell (i := 1) rfl
  have r0_0 := r0.cell (i := 0) rfl
  have r0_1 := r0.cell (i := 1) rfl
  replace hl := hl.up (Up.refl W).drew
  replace hm := hm.up (Up.refl W).drew
  replace b0 := b0.up (Up.refl W).drew
  replace b1 := b1.up (Up.refl W).drew
  replace r0 := r0.up (Up.refl W).drew
  replace UP := UP.trans (Up.refl W).drew
  replace b0_0 := b0.cell (i := 0) rfl
  replace b0_1 := b0.cell (i := 1) rfl
  replace b1_0 := b1.cell (i := 0) rfl
  replace b1_1 := b1.cell (i := 1) rfl
  have r0_0 := r0.cell (i := 0) rfl
  have r0_1 := r0.cell (i := 1) rfl
  have r0_f0 := r0.free 0
  have r0_f1 := r0.free 1
  go_region_held3 (fun w' => Up w w' ∧ w'.cell? ⟨w.heap.size, 0, none⟩ = some (.bool s) ∧ w'.cell? ⟨w.heap.size, 1, none⟩ = some (.slice A l.length c) ∧ w'.cell? ⟨w.heap.size + 1, 0, none⟩ = some (.bool t) ∧ w'.cell? ⟨w.heap.size + 1, 1, none⟩ = some (.slice D m.length d))
      (first | with_reducible exact ⟨UP, b0_0, b0_1, b1_0, b1_1⟩ | with_reducible exact ⟨((UP.setCell (p := ⟨w.heap.size + 1 + 1, 0, none⟩) (by dsimp only; omega) _).setCell (p := ⟨w.heap.size + 1 + 1, 1, none⟩) (by dsimp only; omega) _), (cell_far_block (cell_far_block b0_0 (by dsimp only; omega)) (by dsimp only; omega)), (cell_far_block (cell_far_block b0_1 (by dsimp only; omega)) (by dsimp only; omega)), (cell_far_block (cell_far_block b1_0 (by dsimp only; omega)) (by dsimp only; omega)), (cell_far_block (cell_far_block b1_1 (by dsimp only; omega)) (by dsimp only; omega))⟩ | with_reducible exact ⟨(UP.alloc_drew _), (cell_alloc_drew b0_0), (cell_alloc_drew b0_1), (cell_alloc_drew b1_0), (cell_alloc_drew b1_1)⟩ | with_reducible exact ⟨(UP.alloc2_drew _ _), (cell_alloc2_drew b0_0), (cell_alloc2_drew b0_1), (cell_alloc2_drew b1_0), (cell_alloc2_drew b1_1)⟩ | (simp only [← World.setCell_drew]; with_reducible exact ⟨((UP.setCell (p := ⟨w.heap.size + 1 + 1, 0, none⟩) (by dsimp only; omega) _).setCell (p := ⟨w.heap.size + 1 + 1, 1, none⟩) (by dsimp only; omega) _), (cell_far_block (cell_far_block b0_0 (by dsimp only; omega)) (by dsimp only; omega)), (cell_far_block (cell_far_block b0_1 (by dsimp only; omega)) (by dsimp only; omega)), (cell_far_block (cell_far_block b1_0 (by dsimp only; omega)) (by dsimp only; omega)), (cell_far_block (cell_far_block b1_1 (by dsimp only; omega)) (by dsimp only; omega))⟩) | go_keep)
      ((first
        | (go_at_call 95
           ((with_reducible refine (prod_mul hl hm (by omega) (by omega)).mono ?_))
           rintro e W1 ⟨V1, rfl, n1, u1⟩
           replace hl := hl.up u1
           replace hm := hm.up u1
           try (replace n1 := n1.up u1)
           try (replace z1 := z1.up u1)
           replace b0 := b0.up u1
           replace b1 := b1.up u1
           replace r0 := r0.up u1
           replace UP := UP.trans u1
           replace b0_0 := b0.cell (i := 0) rfl
           replace b0_1 := b0.cell (i := 1) rfl
           replace b1_0 := b1.cell (i := 0) rfl
           replace b1_1 := b1.cell (i := 1) rfl
           replace r0_0 := r0.cell (i := 0) rfl
           replace r0_1 := r0.cell (i := 1) rfl
           replace r0_f0 := r0.free 0
           replace r0_f1 := r0.free 1
           clear u1)
        | (go_at_call 119
           ((with_reducible refine (whole_signed n1 (by omega)).mono ?_))
           rintro e W2 ⟨V2, rfl, z1, u2⟩
           replace hl := hl.up u2
           replace hm := hm.up u2
           try (replace n1 := n1.up u2)
           try (replace z1 := z1.up u2)
           replace b0 := b0.up u2
           replace b1 := b1.up u2
           replace r0 := r0.up u2
           replace UP := UP.trans u2
           replace b0_0 := b0.cell (i := 0) rfl
           replace b0_1 := b0.cell (i := 1) rfl
           replace b1_0 := b1.cell (i := 0) rfl
           replace b1_1 := b1.cell (i := 1) rfl
           replace r0_0 := r0.cell (i := 0) rfl
           replace r0_1 := r0.cell (i := 1) rfl
           replace r0_f0 := r0.free 0
           replace r0_f1 := r0.free 1
           clear u2
           obtain ⟨Xz1, rfl, z1⟩ := z1
           obtain ⟨Az1, nz1, cz1, rfl⟩ := z1.shape)))
  go_wp2
  exact end_z rfl rfl rfl ⟨_, rfl, z1⟩ r0 trivial trivial UP (by omega)

set_option maxHeartbeats 1600000 in
theorem whole_sign {v : Value} {z : Int} {k : Nat} {w : World} (h : Wh w v z k) (hk : k ≤ 1000000) : Calls Try.prog 92 #[v] w (RetN (Wd.sgn z) w) := by
  obtain ⟨s, u, l, rfl, hl, hz, hle⟩ := h
  obtain ⟨A, c, rfl⟩ := hl.form
  subst hz
  by_cases h0 : Wd.val l = 0
  · have H0 : Hid (decide (Wd.val l = 0) = true) := Lib.hid (decide_eq_true h0)
    rw [h0, Wd.iv_zero]
    clear h0
    have UP : Up w (w.alloc (.cells #[.bool s, .slice A l.length c] 65)) := (Up.refl w).alloc _
    have b0 := Bx.new 65 w [.bool s, .slice A l.length c]
    go_enter Try.func92, Try.ntmps92
    go_wp2_with fail
    generalize (w.alloc (.cells #[.bool s, .slice A l.length c] 65)) = W at *
    replace hl := hl.up UP
    have b0_0 := b0.cell (i := 0) rfl
    have b0_1 := b0.cell (i := 1) rfl
    go_wp2_with fail
    ((with_reducible refine (nat_zero hl (by omega)).mono ?_))
    rintro e W1 ⟨rfl, rfl⟩
    rw [H0.out]
    go_wp2
    go_ret
    exact ⟨rfl, UP⟩
  · have H0 : Hid (decide (Wd.val l = 0) = false) := Lib.hid (decide_eq_false h0)
    have HS : Hid (Wd.sgn (Wd.iv s (Wd.val l)) = if s then -1 else 1) := Lib.hid (by
      cases s
      · exact Wd.sgn_pos (by simp [Wd.iv]; omega)
      · exact Wd.sgn_neg (by simp [Wd.iv]; omega))
    rw [HS.out]
    clear h0
    cases s
    · skip
      have UP : Up w (w.alloc (.cells #[.bool false, .slice A l.length c] 65)) := (Up.refl w).alloc _
      have b0 := Bx.new 65 w [.bool false, .slice A l.length c]
      go_enter Try.func92, Try.ntmps92
      go_wp2_with fail
      generalize (w.alloc (.cells #[.bool false, .slice A l.length c] 65)) = W at *
      replace hl := hl.up UP
      have b0_0 := b0.cell (i := 0) rfl
      have b0_1 := b0.cell (i := 1) rfl
      go_wp2_with fail
      ((with_reducible refine (nat_zero hl (by omega)).mono ?_))
      rintro e W1 ⟨rfl, rfl⟩
      rw [H0.out]
      go_wp2
      go_ret
      exact ⟨rfl, UP⟩
    · skip
      have UP : Up w (w.alloc (.cells #[.bool true, .slice A l.length c] 65)) := (Up.refl w).alloc _
      have b0 := Bx.new 65 w [.bool true, .slice A l.length c]
      go_enter Try.func92, Try.ntmps92
      go_wp2_with fail
      generalize (w.alloc (.cells #[.bool true, .slice A l.length c] 65)) = W at *
      replace hl := hl.up UP
      have b0_0 := b0.cell (i := 0) rfl
      have b0_1 := b0.cell (i := 1) rfl
      go_wp2_with fail
      ((with_reducible refine (nat_zero hl (by omega)).mono ?_))
      rintro e W1 ⟨rfl, rfl⟩
      rw [H0.out]
      go_wp2
      go_ret
      exact ⟨rfl, UP⟩

/-- A sum of two of one sign. -/
theorem gap_len {a b k : Nat} (ha : (Wd.words a).length ≤ k) (hb : (Wd.words b).length ≤ k) : (Wd.words (Wd.gapN a b)).length ≤ k := by
  unfold Wd.gapN
  split
  · exact Nat.le_trans (Wd.words_mono (Nat.sub_le _ _)) hb
  · exact Nat.le_trans (Wd.words_mono (Nat.sub_le _ _)) ha
set_option maxRecDepth 100000 in
set_option maxHeartbeats 6400000 in
theorem whole_add {v u : Value} {z y : Int} {j k : Nat} {w : World} (h : Wh w v z j) (h' : Wh w u y k) (hj : j ≤ 900000) (hk : k ≤ 900000) : Calls Try.prog 98 #[v, u] w (RetZ (z + y) w) := by
  obtain ⟨s, v1, l, rfl, hl, hz, hle⟩ := h
  obtain ⟨t, v2, m, rfl, hm, hy, hme⟩ := h'
  have hlen := Wd.words_add_le1 (m := 900000) (Nat.le_trans (Wd.words_val_length hl.ok) (by omega)) (Nat.le_trans (Wd.words_val_length hm.ok) (by omega))
  have hgap := gap_len (k := 900000) (Nat.le_trans (Wd.words_val_length hl.ok) (by omega)) (Nat.le_trans (Wd.words_val_length hm.ok) (by omega))
  have HV : Hid (Wd.vsum [l, m] = Wd.val l + Wd.val m) := Lib.hid (by simp [Wd.vsum])
  obtain ⟨A, c, rfl⟩ := hl.form
  obtain ⟨D, d, rfl⟩ := hm.form
  subst hz hy
  cases s <;> cases t
  · rw [← Wd.iv_add]
    have UP : Up w (((w.alloc (.cells #[.bool false, .slice A l.length c] 65)).alloc (.cells #[.bool false, .slice D m.length d] 65)).alloc (.cells #[.bool false, .slice none 0 0] 65)) := (((Up.refl w).alloc _).alloc _).alloc _
    obtain ⟨b0, b1, r0⟩ := bx_three 65 65 65 w [.bool false, .slice A l.length c] [.bool false, .slice D m.length d] [.bool false, .slice none 0 0]
    go_enter Try.func98, Try.ntmps98
    go_wp2_with fail
    generalize (((w.alloc (.cells #[.bool false, .slice A l.length c] 65)).alloc (.cells #[.bool false, .slice D m.length d] 65)).alloc (.cells #[.bool false, .slice none 0 0] 65)) = W at *
    replace hl := hl.up UP
    replace hm := hm.up UP
    have b0_0 := b0.cell (i := 0) rfl
    have b0_1 := b0.cell (i := 1) rfl
    have b1_0 := b1.cell (i := 0) rfl
    have b1_1 := b1.cell (i := 1) rfl
    have r0_0 := r0.cell (i := 0) rfl
    have r0_1 := r0.cell (i := 1) rfl
    replace hl := hl.up (Up.refl W).drew
    replace hm := hm.up (Up.refl W).drew
    replace b0 := b0.up (Up.refl W).drew
    replace b1 := b1.up (Up.refl W).drew
    replace r0 := r0.up (Up.refl W).drew
    replace UP := UP.trans (Up.refl W).drew
    replace b0_0 := b0.cell (i := 0) rfl
    replace b0_1 := b0.cell (i := 1) rfl
    replace b1_0 := b1.cell (i := 0) rfl
    replace b1_1 := b1.cell (i := 1) rfl
    have r0_0 := r0.cell (i := 0) rfl
    have r0_1 := r0.cell (i := 1) rfl
    have r0_f0 := r0.free 0
    have r0_f1 := r0.free 1
    go_region_held3 (fun w' => Up w w' ∧ w'.cell? ⟨w.heap.size, 0, none⟩ = some (.bool false) ∧ w'.cell? ⟨w.heap.size, 1, none⟩ = some (.slice A l.length c) ∧ w'.cell? ⟨w.heap.size + 1, 0, none⟩ = some (.bool false) ∧ w'.cell? ⟨w.heap.size + 1, 1, none⟩ = some (.slice D m.length d))
        (first | with_reducible exact ⟨UP, b0_0, b0_1, b1_0, b1_1⟩ | with_reducible exact ⟨((UP.setCell (p := ⟨w.heap.size + 1 + 1, 0, none⟩) (by dsimp only; omega) _).setCell (p := ⟨w.heap.size + 1 + 1, 1, none⟩) (by dsimp only; omega) _), (cell_far_block (cell_far_block b0_0 (by dsimp only; omega)) (by dsimp only; omega)), (cell_far_block (cell_far_block b0_1 (by dsimp only; omega)) (by dsimp only; omega)), (cell_far_block (cell_far_block b1_0 (by dsimp only; omega)) (by dsimp only; omega)), (cell_far_block (cell_far_block b1_1 (by dsimp only; omega)) (by dsimp only; omega))⟩ | with_reducible exact ⟨(UP.alloc_drew _), (cell_alloc_drew b0_0), (cell_alloc_drew b0_1), (cell_alloc_drew b1_0), (cell_alloc_drew b1_1)⟩ | with_reducible exact ⟨(UP.alloc2_drew _ _), (cell_alloc2_drew b0_0), (cell_alloc2_drew b0_1), (cell_alloc2_drew b1_0), (cell_alloc2_drew b1_1)⟩ | (simp only [← World.setCell_drew]; with_reducible exact ⟨((UP.setCell (p := ⟨w.heap.size + 1 + 1, 0, none⟩) (by dsimp only; omega) _).setCell (p := ⟨w.heap.size + 1 + 1, 1, none⟩) (by dsimp only; omega) _), (cell_far_block (cell_far_block b0_0 (by dsimp only; omega)) (by dsimp only; omega)), (cell_far_block (cell_far_block b0_1 (by dsimp only; omega)) (by dsimp only; omega)), (cell_far_block (cell_far_block b1_0 (by dsimp only; omega)) (by dsimp only; omega)), (cell_far_block (cell_far_block b1_1 (by dsimp only; omega)) (by dsimp only; omega))⟩) | go_keep)
        ((first
          | (go_at_call 127
             ((with_reducible refine (nat_add ((wss_two hl.undrew hm.undrew).up (Up.refl _).drew) (by simp) (by simp; omega) (by rw [HV.out]; omega)).mono ?_))
             rintro e W1 ⟨V1, rfl, n1, u1⟩
             replace hl := hl.up (Up.skip u1)
             replace hm := hm.up (Up.skip u1)
             try (replace n1 := n1.up (Up.skip u1))
             try (replace z1 := z1.up (Up.skip u1))
             replace b0 := b0.up (Up.skip u1)
             replace b1 := b1.up (Up.skip u1)
             replace r0 := r0.up (Up.skip u1)
             replace UP := UP.trans (Up.skip u1)
             replace b0_0 := b0.cell (i := 0) rfl
             replace b0_1 := b0.cell (i := 1) rfl
             replace b1_0 := b1.cell (i := 0) rfl
             replace b1_1 := b1.cell (i := 1) rfl
             replace r0_0 := r0.cell (i := 0) rfl
             replace r0_1 := r0.cell (i := 1) rfl
             replace r0_f0 := r0.free 0
             replace r0_f1 := r0.free 1
             clear u1
             rw [HV.out] at n1)
          | (go_at_call 119
             ((with_reducible refine (whole_signed n1 (by omega)).mono ?_))
             rintro e W2 ⟨V2, rfl, z1, u2⟩
             replace hl := hl.up u2
             replace hm := hm.up u2
             try (replace n1 := n1.up u2)
             try (replace z1 := z1.up u2)
             replace b0 := b0.up u2
             replace b1 := b1.up u2
             replace r0 := r0.up u2
             replace UP := UP.trans u2
             replace b0_0 := b0.cell (i := 0) rfl
             replace b0_1 := b0.cell (i := 1) rfl
             replace b1_0 := b1.cell (i := 0) rfl
             replace b1_1 := b1.cell (i := 1) rfl
             replace r0_0 := r0.cell (i := 0) rfl
             replace r0_1 := r0.cell (i := 1) rfl
             replace r0_f0 := r0.free 0
             replace r0_f1 := r0.free 1
             clear u2
             obtain ⟨Xz1, rfl, z1⟩ := z1
             obtain ⟨Az1, nz1, cz1, rfl⟩ := z1.shape)))
    go_wp2
    exact end_z rfl rfl rfl ⟨_, rfl, z1⟩ r0 trivial trivial UP (by omega)
  · rw [← Wd.iv_gap false true _ _ rfl]
    by_cases hlt : Wd.val l < Wd.val m
    · rw [if_pos hlt]
      have HC := Lib.hid (Wd.cmpI_lt hlt)
      clear hlt
      have UP : Up w (((w.alloc (.cells #[.bool false, .slice A l.length c] 65)).alloc (.cells #[.bool true, .slice D m.length d] 65)).alloc (.cells #[.bool false, .slice none 0 0] 65)) := (((Up.refl w).alloc _).alloc _).alloc _
      obtain ⟨b0, b1, r0⟩ := bx_three 65 65 65 w [.bool false, .slice A l.length c] [.bool true, .slice D m.length d] [.bool false, .slice none 0 0]
      go_enter Try.func98, Try.ntmps98
      go_wp2_with fail
      generalize (((w.alloc (.cells #[.bool false, .slice A l.length c] 65)).alloc (.cells #[.bool true, .slice D m.length d] 65)).alloc (.cells #[.bool false, .slice none 0 0] 65)) = W at *
      replace hl := hl.up UP
      replace hm := hm.up UP
      have b0_0 := b0.cell (i := 0) rfl
      have b0_1 := b0.cell (i := 1) rfl
      have b1_0 := b1.cell (i := 0) rfl
      have b1_1 := b1.cell (i := 1) rfl
      have r0_0 := r0.cell (i := 0) rfl
      have r0_1 := r0.cell (i := 1) rfl
      go_wp2_with fail
      ((with_reducible refine (nat_gap hl hm (by omega) (by omega)).mono ?_))
      rintro e W1 ⟨V1, rfl, n1, u1⟩
      replace hl := hl.up u1
      replace hm := hm.up u1
      replace b0 := b0.up u1
      replace b1 := b1.up u1
      replace r0 := r0.up u1
      replace UP := UP.trans u1
      replace b0_0 := b0.cell (i := 0) rfl
      replace b0_1 := b0.cell (i := 1) rfl
      replace b1_0 := b1.cell (i := 0) rfl
      replace b1_1 := b1.cell (i := 1) rfl
      replace r0_0 := r0.cell (i := 0) rfl
      replace r0_1 := r0.cell (i := 1) rfl
      clear u1
      rw [HC.out]
      go_wp2_with fail
      ((with_reducible refine (whole_signed n1 (by omega)).mono ?_))
      rintro e W2 ⟨V2, rfl, z1, u2⟩
      replace hl := hl.up u2
      replace hm := hm.up u2
      replace n1 := n1.up u2
      replace b0 := b0.up u2
      replace b1 := b1.up u2
      replace r0 := r0.up u2
      replace UP := UP.trans u2
      replace b0_0 := b0.cell (i := 0) rfl
      replace b0_1 := b0.cell (i := 1) rfl
      replace b1_0 := b1.cell (i := 0) rfl
      replace b1_1 := b1.cell (i := 1) rfl
      replace r0_0 := r0.cell (i := 0) rfl
      replace r0_1 := r0.cell (i := 1) rfl
      clear u2
      obtain ⟨Xz1, rfl, z1⟩ := z1
      obtain ⟨Az1, nz1, cz1, rfl⟩ := z1.shape
      have q0 := r0.free 0
      have q1 := r0.free 1
      go_wp2
      exact end_z rfl rfl rfl ⟨_, rfl, z1⟩ r0 trivial trivial UP (by omega)
    · rw [if_neg hlt]
      have HC : Hid (∃ t, Wd.cmpI (Wd.val l) (Wd.val m) = t ∧ 0 ≤ t) := Lib.hid ⟨_, rfl, by have := @Wd.cmpI_neg (Wd.val l) (Wd.val m); omega⟩
      clear hlt
      have UP : Up w (((w.alloc (.cells #[.bool false, .slice A l.length c] 65)).alloc (.cells #[.bool true, .slice D m.length d] 65)).alloc (.cells #[.bool false, .slice none 0 0] 65)) := (((Up.refl w).alloc _).alloc _).alloc _
      obtain ⟨b0, b1, r0⟩ := bx_three 65 65 65 w [.bool false, .slice A l.length c] [.bool true, .slice D m.length d] [.bool false, .slice none 0 0]
      go_enter Try.func98, Try.ntmps98
      go_wp2_with fail
      generalize (((w.alloc (.cells #[.bool false, .slice A l.length c] 65)).alloc (.cells #[.bool true, .slice D m.length d] 65)).alloc (.cells #[.bool false, .slice none 0 0] 65)) = W at *
      replace hl := hl.up UP
      replace hm := hm.up UP
      have b0_0 := b0.cell (i := 0) rfl
      have b0_1 := b0.cell (i := 1) rfl
      have b1_0 := b1.cell (i := 0) rfl
      have b1_1 := b1.cell (i := 1) rfl
      have r0_0 := r0.cell (i := 0) rfl
      have r0_1 := r0.cell (i := 1) rfl
      go_wp2_with fail
      ((with_reducible refine (nat_gap hl hm (by omega) (by omega)).mono ?_))
      rintro e W1 ⟨V1, rfl, n1, u1⟩
      replace hl := hl.up u1
      replace hm := hm.up u1
      replace b0 := b0.up u1
      replace b1 := b1.up u1
      replace r0 := r0.up u1
      replace UP := UP.trans u1
      replace b0_0 := b0.cell (i := 0) rfl
      replace b0_1 := b0.cell (i := 1) rfl
      replace b1_0 := b1.cell (i := 0) rfl
      replace b1_1 := b1.cell (i := 1) rfl
      replace r0_0 := r0.cell (i := 0) rfl
      replace r0_1 := r0.cell (i := 1) rfl
      clear u1
      obtain ⟨t, ht, h0⟩ := HC.out
      rw [ht]
      clear ht
      go_wp2_with fail
      ((with_reducible refine (whole_signed n1 (by omega)).mono ?_))
      rintro e W2 ⟨V2, rfl, z1, u2⟩
      replace hl := hl.up u2
      replace hm := hm.up u2
      replace n1 := n1.up u2
      replace b0 := b0.up u2
      replace b1 := b1.up u2
      replace r0 := r0.up u2
      replace UP := UP.trans u2
      replace b0_0 := b0.cell (i := 0) rfl
      replace b0_1 := b0.cell (i := 1) rfl
      replace b1_0 := b1.cell (i := 0) rfl
      replace b1_1 := b1.cell (i := 1) rfl
      replace r0_0 := r0.cell (i := 0) rfl
      replace r0_1 := r0.cell (i := 1) rfl
      clear u2
      obtain ⟨Xz1, rfl, z1⟩ := z1
      obtain ⟨Az1, nz1, cz1, rfl⟩ := z1.shape
      have q0 := r0.free 0
      have q1 := r0.free 1
      go_wp2
      exact end_z rfl rfl rfl ⟨_, rfl, z1⟩ r0 trivial trivial UP (by omega)
  · rw [← Wd.iv_gap true false _ _ rfl]
    by_cases hlt : Wd.val l < Wd.val m
    · rw [if_pos hlt]
      have HC := Lib.hid (Wd.cmpI_lt hlt)
      clear hlt
      have UP : Up w (((w.alloc (.cells #[.bool true, .slice A l.length c] 65)).alloc (.cells #[.bool false, .slice D m.length d] 65)).alloc (.cells #[.bool false, .slice none 0 0] 65)) := (((Up.refl w).alloc _).alloc _).alloc _
      obtain ⟨b0, b1, r0⟩ := bx_three 65 65 65 w [.bool true, .slice A l.length c] [.bool false, .slice D m.length d] [.bool false, .slice none 0 0]
      go_enter Try.func98, Try.ntmps98
      go_wp2_with fail
      generalize (((w.alloc (.cells #[.bool true, .slice A l.length c] 65)).alloc (.cells #[.bool false, .slice D m.length d] 65)).alloc (.cells #[.bool false, .slice none 0 0] 65)) = W at *
      replace hl := hl.up UP
      replace hm := hm.up UP
      have b0_0 := b0.cell (i := 0) rfl
      have b0_1 := b0.cell (i := 1) rfl
      have b1_0 := b1.cell (i := 0) rfl
      have b1_1 := b1.cell (i := 1) rfl
      have r0_0 := r0.cell (i := 0) rfl
      have r0_1 := r0.cell (i := 1) rfl
      go_wp2_with fail
      ((with_reducible refine (nat_gap hl hm (by omega) (by omega)).mono ?_))
      rintro e W1 ⟨V1, rfl, n1, u1⟩
      replace hl := hl.up u1
      replace hm := hm.up u1
      replace b0 := b0.up u1
      replace b1 := b1.up u1
      replace r0 := r0.up u1
      replace UP := UP.trans u1
      replace b0_0 := b0.cell (i := 0) rfl
      replace b0_1 := b0.cell (i := 1) rfl
      replace b1_0 := b1.cell (i := 0) rfl
      replace b1_1 := b1.cell (i := 1) rfl
      replace r0_0 := r0.cell (i := 0) rfl
      replace r0_1 := r0.cell (i := 1) rfl
      clear u1
      rw [HC.out]
      go_wp2_with fail
      ((with_reducible refine (whole_signed n1 (by omega)).mono ?_))
      rintro e W2 ⟨V2, rfl, z1, u2⟩
      replace hl := hl.up u2
      replace hm := hm.up u2
      replace n1 := n1.up u2
      replace b0 := b0.up u2
      replace b1 := b1.up u2
      replace r0 := r0.up u2
      replace UP := UP.trans u2
      replace b0_0 := b0.cell (i := 0) rfl
      replace b0_1 := b0.cell (i := 1) rfl
      replace b1_0 := b1.cell (i := 0) rfl
      replace b1_1 := b1.cell (i := 1) rfl
      replace r0_0 := r0.cell (i := 0) rfl
      replace r0_1 := r0.cell (i := 1) rfl
      clear u2
      obtain ⟨Xz1, rfl, z1⟩ := z1
      obtain ⟨Az1, nz1, cz1, rfl⟩ := z1.shape
      have q0 := r0.free 0
      have q1 := r0.free 1
      go_wp2
      exact end_z rfl rfl rfl ⟨_, rfl, z1⟩ r0 trivial trivial UP (by omega)
    · rw [if_neg hlt]
      have HC : Hid (∃ t, Wd.cmpI (Wd.val l) (Wd.val m) = t ∧ 0 ≤ t) := Lib.hid ⟨_, rfl, by have := @Wd.cmpI_neg (Wd.val l) (Wd.val m); omega⟩
      clear hlt
      have UP : Up w (((w.alloc (.cells #[.bool true, .slice A l.length c] 65)).alloc (.cells #[.bool false, .slice D m.length d] 65)).alloc (.cells #[.bool false, .slice none 0 0] 65)) := (((Up.refl w).alloc _).alloc _).alloc _
      obtain ⟨b0, b1, r0⟩ := bx_three 65 65 65 w [.bool true, .slice A l.length c] [.bool false, .slice D m.length d] [.bool false, .slice none 0 0]
      go_enter Try.func98, Try.ntmps98
      go_wp2_with fail
      generalize (((w.alloc (.cells #[.bool true, .slice A l.length c] 65)).alloc (.cells #[.bool false, .slice D m.length d] 65)).alloc (.cells #[.bool false, .slice none 0 0] 65)) = W at *
      replace hl := hl.up UP
      replace hm := hm.up UP
      have b0_0 := b0.cell (i := 0) rfl
      have b0_1 := b0.cell (i := 1) rfl
      have b1_0 := b1.cell (i := 0) rfl
      have b1_1 := b1.cell (i := 1) rfl
      have r0_0 := r0.cell (i := 0) rfl
      have r0_1 := r0.cell (i := 1) rfl
      go_wp2_with fail
      ((with_reducible refine (nat_gap hl hm (by omega) (by omega)).mono ?_))
      rintro e W1 ⟨V1, rfl, n1, u1⟩
      replace hl := hl.up u1
      replace hm := hm.up u1
      replace b0 := b0.up u1
      replace b1 := b1.up u1
      replace r0 := r0.up u1
      replace UP := UP.trans u1
      replace b0_0 := b0.cell (i := 0) rfl
      replace b0_1 := b0.cell (i := 1) rfl
      replace b1_0 := b1.cell (i := 0) rfl
      replace b1_1 := b1.cell (i := 1) rfl
      replace r0_0 := r0.cell (i := 0) rfl
      replace r0_1 := r0.cell (i := 1) rfl
      clear u1
      obtain ⟨t, ht, h0⟩ := HC.out
      rw [ht]
      clear ht
      go_wp2_with fail
      ((with_reducible refine (whole_signed n1 (by omega)).mono ?_))
      rintro e W2 ⟨V2, rfl, z1, u2⟩
      replace hl := hl.up u2
      replace hm := hm.up u2
      replace n1 := n1.up u2
      replace b0 := b0.up u2
      replace b1 := b1.up u2
      replace r0 := r0.up u2
      replace UP := UP.trans u2
      replace b0_0 := b0.cell (i := 0) rfl
      replace b0_1 := b0.cell (i := 1) rfl
      replace b1_0 := b1.cell (i := 0) rfl
      replace b1_1 := b1.cell (i := 1) rfl
      replace r0_0 := r0.cell (i := 0) rfl
      replace r0_1 := r0.cell (i := 1) rfl
      clear u2
      obtain ⟨Xz1, rfl, z1⟩ := z1
      obtain ⟨Az1, nz1, cz1, rfl⟩ := z1.shape
      have q0 := r0.free 0
      have q1 := r0.free 1
      go_wp2
      exact end_z rfl rfl rfl ⟨_, rfl, z1⟩ r0 trivial trivial UP (by omega)
  · rw [← Wd.iv_add]
    have UP : Up w (((w.alloc (.cells #[.bool true, .slice A l.length c] 65)).alloc (.cells #[.bool true, .slice D m.length d] 65)).alloc (.cells #[.bool false, .slice none 0 0] 65)) := (((Up.refl w).alloc _).alloc _).alloc _
    obtain ⟨b0, b1, r0⟩ := bx_three 65 65 65 w [.bool true, .slice A l.length c] [.bool true, .slice D m.length d] [.bool false, .slice none 0 0]
    go_enter Try.func98, Try.ntmps98
    go_wp2_with fail
    generalize (((w.alloc (.cells #[.bool true, .slice A l.length c] 65)).alloc (.cells #[.bool true, .slice D m.length d] 65)).alloc (.cells #[.bool false, .slice none 0 0] 65)) = W at *
    replace hl := hl.up UP
    replace hm := hm.up UP
    have b0_0 := b0.cell (i := 0) rfl
    have b0_1 := b0.cell (i := 1) rfl
    have b1_0 := b1.cell (i := 0) rfl
    have b1_1 := b1.cell (i := 1) rfl
    have r0_0 := r0.cell (i := 0) rfl
    have r0_1 := r0.cell (i := 1) rfl
    replace hl := hl.up (Up.refl W).drew
    replace hm := hm.up (Up.refl W).drew
    replace b0 := b0.up (Up.refl W).drew
    replace b1 := b1.up (Up.refl W).drew
    replace r0 := r0.up (Up.refl W).drew
    replace UP := UP.trans (Up.refl W).drew
    replace b0_0 := b0.cell (i := 0) rfl
    replace b0_1 := b0.cell (i := 1) rfl
    replace b1_0 := b1.cell (i := 0) rfl
    replace b1_1 := b1.cell (i := 1) rfl
    have r0_0 := r0.cell (i := 0) rfl
    have r0_1 := r0.cell (i := 1) rfl
    have r0_f0 := r0.free 0
    have r0_f1 := r0.free 1
    go_region_held3 (fun w' => Up w w' ∧ w'.cell? ⟨w.heap.size, 0, none⟩ = some (.bool true) ∧ w'.cell? ⟨w.heap.size, 1, none⟩ = some (.slice A l.length c) ∧ w'.cell? ⟨w.heap.size + 1, 0, none⟩ = some (.bool true) ∧ w'.cell? ⟨w.heap.size + 1, 1, none⟩ = some (.slice D m.length d))
        (first | with_reducible exact ⟨UP, b0_0, b0_1, b1_0, b1_1⟩ | with_reducible exact ⟨((UP.setCell (p := ⟨w.heap.size + 1 + 1, 0, none⟩) (by dsimp only; omega) _).setCell (p := ⟨w.heap.size + 1 + 1, 1, none⟩) (by dsimp only; omega) _), (cell_far_block (cell_far_block b0_0 (by dsimp only; omega)) (by dsimp only; omega)), (cell_far_block (cell_far_block b0_1 (by dsimp only; omega)) (by dsimp only; omega)), (cell_far_block (cell_far_block b1_0 (by dsimp only; omega)) (by dsimp only; omega)), (cell_far_block (cell_far_block b1_1 (by dsimp only; omega)) (by dsimp only; omega))⟩ | with_reducible exact ⟨(UP.alloc_drew _), (cell_alloc_drew b0_0), (cell_alloc_drew b0_1), (cell_alloc_drew b1_0), (cell_alloc_drew b1_1)⟩ | with_reducible exact ⟨(UP.alloc2_drew _ _), (cell_alloc2_drew b0_0), (cell_alloc2_drew b0_1), (cell_alloc2_drew b1_0), (cell_alloc2_drew b1_1)⟩ | (simp only [← World.setCell_drew]; with_reducible exact ⟨((UP.setCell (p := ⟨w.heap.size + 1 + 1, 0, none⟩) (by dsimp only; omega) _).setCell (p := ⟨w.heap.size + 1 + 1, 1, none⟩) (by dsimp only; omega) _), (cell_far_block (cell_far_block b0_0 (by dsimp only; omega)) (by dsimp only; omega)), (cell_far_block (cell_far_block b0_1 (by dsimp only; omega)) (by dsimp only; omega)), (cell_far_block (cell_far_block b1_0 (by dsimp only; omega)) (by dsimp only; omega)), (cell_far_block (cell_far_block b1_1 (by dsimp only; omega)) (by dsimp only; omega))⟩) | go_keep)
        ((first
          | (go_at_call 127
             ((with_reducible refine (nat_add ((wss_two hl.undrew hm.undrew).up (Up.refl _).drew) (by simp) (by simp; omega) (by rw [HV.out]; omega)).mono ?_))
             rintro e W1 ⟨V1, rfl, n1, u1⟩
             replace hl := hl.up (Up.skip u1)
             replace hm := hm.up (Up.skip u1)
             try (replace n1 := n1.up (Up.skip u1))
             try (replace z1 := z1.up (Up.skip u1))
             replace b0 := b0.up (Up.skip u1)
             replace b1 := b1.up (Up.skip u1)
             replace r0 := r0.up (Up.skip u1)
             replace UP := UP.trans (Up.skip u1)
             replace b0_0 := b0.cell (i := 0) rfl
             replace b0_1 := b0.cell (i := 1) rfl
             replace b1_0 := b1.cell (i := 0) rfl
             replace b1_1 := b1.cell (i := 1) rfl
             replace r0_0 := r0.cell (i := 0) rfl
             replace r0_1 := r0.cell (i := 1) rfl
             replace r0_f0 := r0.free 0
             replace r0_f1 := r0.free 1
             clear u1
             rw [HV.out] at n1)
          | (go_at_call 119
             ((with_reducible refine (whole_signed n1 (by omega)).mono ?_))
             rintro e W2 ⟨V2, rfl, z1, u2⟩
             replace hl := hl.up u2
             replace hm := hm.up u2
             try (replace n1 := n1.up u2)
             try (replace z1 := z1.up u2)
             replace b0 := b0.up u2
             replace b1 := b1.up u2
             replace r0 := r0.up u2
             replace UP := UP.trans u2
             replace b0_0 := b0.cell (i := 0) rfl
             replace b0_1 := b0.cell (i := 1) rfl
             replace b1_0 := b1.cell (i := 0) rfl
             replace b1_1 := b1.cell (i := 1) rfl
             replace r0_0 := r0.cell (i := 0) rfl
             replace r0_1 := r0.cell (i := 1) rfl
             replace r0_f0 := r0.free 0
             replace r0_f1 := r0.free 1
             clear u2
             obtain ⟨Xz1, rfl, z1⟩ := z1
             obtain ⟨Az1, nz1, cz1, rfl⟩ := z1.shape)))
    go_wp2
    exact end_z rfl rfl rfl ⟨_, rfl, z1⟩ r0 trivial trivial UP (by omega)
end Go.Proofs.Ytjkkeilmnklpcaa
