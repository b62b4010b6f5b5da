/-
  Layers 8 and 9, the document's answers: whole numbers with a sign; the right fraction.
-/
import Derived.Test.YtjkkeilmnklpcaaFrac
import Derived.Test.YtjkkeilmnklpcaaRefProd
set_option linter.unusedVariables false
set_option linter.unusedSimpArgs false
namespace Go.Proofs.Ytjkkeilmnklpcaa
open Go.RowKit

theorem agg_rwhole (w : World) : (isAgg 97).run Try.prog w = .ok true w := by kernel_rfl
theorem size_rwhole (w : World) : (sizeOf 97).run Try.prog w = .ok 2 w := by kernel_rfl
theorem agg_rfrac_ (w : World) : (isAgg 61).run Try.prog w = .ok true w := by kernel_rfl
theorem size_rfrac_ (w : World) : (sizeOf 61).run Try.prog w = .ok 3 w := by kernel_rfl
theorem z_stored {w0 w : World} {T : TypeId} {g : Nat} {z : Int} {s : Bool} {u p q : Value} (h : Zw w (.agg #[.bool s, u]) z) (r : Bx T w g [p, q]) (np : NoWord p) (nq : NoWord q) (hu : Up w0 w) (hg : w0.heap.size ≤ g) :
    Bx T ((w.setCell ⟨g, 0, none⟩ (.bool s)).setCell ⟨g, 1, none⟩ u) g [.bool s, u] ∧ Zw ((w.setCell ⟨g, 0, none⟩ (.bool s)).setCell ⟨g, 1, none⟩ u) (.agg #[.bool s, u]) z ∧ Up w0 ((w.setCell ⟨g, 0, none⟩ (.bool s)).setCell ⟨g, 1, none⟩ u) := by
  have r1 : Bx T (w.setCell ⟨g, 0, none⟩ (.bool s)) g [.bool s, q] := r.set 0 _
  have r2 : Bx T ((w.setCell ⟨g, 0, none⟩ (.bool s)).setCell ⟨g, 1, none⟩ u) g [.bool s, u] := r1.set 1 _
  have k1 := (Kw.store (i := 0) (c := p) r rfl np (.bool s)).trans (Kw.store (i := 1) (c := q) r1 rfl nq u)
  exact ⟨r2, h.kw k1, (hu.setCell (p := ⟨g, 0, none⟩) hg _).setCell (p := ⟨g, 1, none⟩) hg _⟩
theorem end_rz {fn : Func} {a : Act} {w0 w : World} {t : Tmp} {g : Nat} {z : Int} {s : Bool} {u p q : Value} (hres : fn.results = #[.cell t 97]) (ht : a.tmps.getD t undef = .pointer (some ⟨g, 0, none⟩)) (hd : a.defers = [])
    (h : Zw w (.agg #[.bool s, u]) z) (r : Bx 97 w g [p, q]) (np : NoWord p) (nq : NoWord q) (hu : Up w0 w) (hg : w0.heap.size ≤ g) :
    bodyPost Try.prog fn (RetZ z w0) .ret a ((w.setCell ⟨g, 0, none⟩ (.bool s)).setCell ⟨g, 1, none⟩ u) := by
  obtain ⟨r2, h2, u2⟩ := z_stored h r np nq hu hg
  exact bodyPost_ret (run_res_cell hres ht agg_rwhole size_rwhole r2 rfl) hd ⟨_, rfl, h2, u2⟩
theorem end_rq {fn : Func} {a : Act} {w0 w : World} {t : Tmp} {g : Nat} {q : Rat} {s : Bool} {u d p1 p2 p3 : Value} (hres : fn.results = #[.cell t 61]) (ht : a.tmps.getD t undef = .pointer (some ⟨g, 0, none⟩)) (hd : a.defers = [])
    (h : Qw w (.agg #[.bool s, u, d]) q) (r : Bx 61 w g [p1, p2, p3]) (n1 : NoWord p1) (n2 : NoWord p2) (n3 : NoWord p3) (hu : Up w0 w) (hg : w0.heap.size ≤ g) :
    bodyPost Try.prog fn (RetQ q w0) .ret a (((w.setCell ⟨g, 0, none⟩ (.bool s)).setCell ⟨g, 1, none⟩ u).setCell ⟨g, 2, none⟩ d) := by
  obtain ⟨r3, h3, u3⟩ := q_stored h r n1 n2 n3 hu hg
  exact bodyPost_ret (run_res_cell hres ht agg_rfrac_ size_rfrac_ r3 rfl) hd ⟨_, rfl, h3, u3⟩

set_option maxHeartbeats 1600000 in
theorem ref8_norm {v : Value} {z : Int} {k : Nat} {w : World} (h : Wh w v z k) (hk : k ≤ 1000000) : Calls Try.prog 130 #[v] w (RetZ z w) := by
  obtain ⟨s, u, l, rfl, hl, hz, hle⟩ := h
  have hlen := Nat.le_trans (Wd.words_val_length hl.ok) hle
  have HN := Lib.hid (Wd.ngb_words s (Wd.val l))
  obtain ⟨A, c, rfl⟩ := hl.form
  subst hz
  cases s
  · skip
    have UP : Up w ((w.alloc (.cells #[.bool false, .slice A l.length c] 97)).alloc (.cells #[.bool false, .slice none 0 0] 97)) := ((Up.refl w).alloc _).alloc _
    obtain ⟨b0, r0⟩ := bx_two 97 97 w [.bool false, .slice A l.length c] [.bool false, .slice none 0 0]
    go_enter Try.func130, Try.ntmps130
    go_wp2_with fail
    generalize ((w.alloc (.cells #[.bool false, .slice A l.length c] 97)).alloc (.cells #[.bool false, .slice none 0 0] 97)) = W at *
    replace hl := hl.up UP
    have b0_0 := b0.cell (i := 0) rfl
    have b0_1 := b0.cell (i := 1) rfl
    have r0_0 := r0.cell (i := 0) rfl
    have r0_1 := r0.cell (i := 1) rfl
    have r0_f0 := r0.free 0
    have r0_f1 := r0.free 1
    go_wp2_with fail
    ((with_reducible refine (ref_norm hl (by omega)).mono ?_))
    intro e W1 ret1
    obtain ⟨V1, rfl, n1, u1⟩ := ret1.ws
    clear ret1
    replace hl := hl.up u1
    replace b0 := b0.up u1
    replace r0 := r0.up u1
    replace UP := UP.trans u1
    replace b0_0 := b0.cell (i := 0) rfl
    replace b0_1 := b0.cell (i := 1) rfl
    replace r0_0 := r0.cell (i := 0) rfl
    replace r0_1 := r0.cell (i := 1) rfl
    replace r0_f0 := r0.free 0
    replace r0_f1 := r0.free 1
    clear u1
    obtain ⟨A1, c1, rfl⟩ := n1.form
    generalize hkk : (Wd.words (Wd.val l)).length = kk at *
    have HKK := Lib.hid hkk
    clear hkk
    go_wp2_with fail
    exact end_rz rfl rfl rfl (Zw.mk n1 (by rw [HN.out]; rfl) (Wd.iv_abs _ _)) r0 trivial trivial UP (by omega)
  · skip
    have UP : Up w ((w.alloc (.cells #[.bool true, .slice A l.length c] 97)).alloc (.cells #[.bool false, .slice none 0 0] 97)) := ((Up.refl w).alloc _).alloc _
    obtain ⟨b0, r0⟩ := bx_two 97 97 w [.bool true, .slice A l.length c] [.bool false, .slice none 0 0]
    go_enter Try.func130, Try.ntmps130
    go_wp2_with fail
    generalize ((w.alloc (.cells #[.bool true, .slice A l.length c] 97)).alloc (.cells #[.bool false, .slice none 0 0] 97)) = W at *
    replace hl := hl.up UP
    have b0_0 := b0.cell (i := 0) rfl
    have b0_1 := b0.cell (i := 1) rfl
    have r0_0 := r0.cell (i := 0) rfl
    have r0_1 := r0.cell (i := 1) rfl
    have r0_f0 := r0.free 0
    have r0_f1 := r0.free 1
    go_wp2_with fail
    ((with_reducible refine (ref_norm hl (by omega)).mono ?_))
    intro e W1 ret1
    obtain ⟨V1, rfl, n1, u1⟩ := ret1.ws
    clear ret1
    replace hl := hl.up u1
    replace b0 := b0.up u1
    replace r0 := r0.up u1
    replace UP := UP.trans u1
    replace b0_0 := b0.cell (i := 0) rfl
    replace b0_1 := b0.cell (i := 1) rfl
    replace r0_0 := r0.cell (i := 0) rfl
    replace r0_1 := r0.cell (i := 1) rfl
    replace r0_f0 := r0.free 0
    replace r0_f1 := r0.free 1
    clear u1
    obtain ⟨A1, c1, rfl⟩ := n1.form
    generalize hkk : (Wd.words (Wd.val l)).length = kk at *
    have HKK := Lib.hid hkk
    clear hkk
    go_wp2_with fail
    exact end_rz rfl rfl rfl (Zw.mk n1 (by rw [HN.out]; rfl) (Wd.iv_abs _ _)) r0 trivial trivial UP (by omega)

set_option maxHeartbeats 1600000 in
theorem ref8_neg {v : Value} {z : Int} {k : Nat} {w : World} (h : Wh w v z k) (hk : k ≤ 1000000) : Calls Try.prog 133 #[v] w (RetZ (-z) w) := by
  obtain ⟨s, u, l, rfl, hl, hz, hle⟩ := h
  obtain ⟨A, c, rfl⟩ := hl.form
  subst hz
  rw [← Wd.iv_not]
  have UP : Up w ((w.alloc (.cells #[.bool s, .slice A l.length c] 97)).alloc (.cells #[.bool false, .slice none 0 0] 97)) := ((Up.refl w).alloc _).alloc _
  obtain ⟨b0, r0⟩ := bx_two 97 97 w [.bool s, .slice A l.length c] [.bool false, .slice none 0 0]
  go_enter Try.func133, Try.ntmps133
  go_wp2_with fail
  generalize ((w.alloc (.cells #[.bool s, .slice A l.length c] 97)).alloc (.cells #[.bool false, .slice none 0 0] 97)) = W at *
  replace hl := hl.up UP
  have b0_0 := b0.cell (i := 0) rfl
  have b0_1 := b0.cell (i := 1) rfl
  have r0_0 := r0.cell (i := 0) rfl
  have r0_1 := r0.cell (i := 1) rfl
  have r0_f0 := r0.free 0
  have r0_f1 := r0.free 1
  go_wp2_with fail
  ((with_reducible refine (ref8_norm (Wh.mk (!s) hl (k := 1000000) (by omega)) (by omega)).mono ?_))
  rintro e W1 ⟨V1, rfl, z1, u1⟩
  replace hl := hl.up u1
  replace b0 := b0.up u1
  replace r0 := r0.up u1
  replace UP := UP.trans u1
  replace b0_0 := b0.cell (i := 0) rfl
  replace b0_1 := b0.cell (i := 1) rfl
  replace r0_0 := r0.cell (i := 0) rfl
  replace r0_1 := r0.cell (i := 1) rfl
  replace r0_f0 := r0.free 0
  replace r0_f1 := r0.free 1
  clear u1
  obtain ⟨Xz1, rfl, z1⟩ := z1
  obtain ⟨Az1, nz1, cz1, rfl⟩ := z1.shape
  go_wp2_with fail
  exact end_rz rfl rfl rfl ⟨_, rfl, z1⟩ r0 trivial trivial UP (by omega)

set_option maxHeartbeats 1600000 in
theorem ref8_mul {v u : Value} {z y : Int} {j k : Nat} {w : World} (h : Wh w v z j) (h' : Wh w u y k) (hj : j ≤ 400000) (hk : k ≤ 400000) : Calls Try.prog 134 #[v, u] w (RetZ (z * y) w) := by
  obtain ⟨s, v1, l, rfl, hl, hz, hle⟩ := h
  obtain ⟨t, v2, m, rfl, hm, hy, hme⟩ := h'
  have hlen := Wd.words_mul_le (Wd.words_val_length hl.ok) (Wd.words_val_length hm.ok)
  obtain ⟨A, c, rfl⟩ := hl.form
  obtain ⟨D, d, rfl⟩ := hm.form
  subst hz hy
  rw [← Wd.iv_mul]
  have UP : Up w (((w.alloc (.cells #[.bool s, .slice A l.length c] 97)).alloc (.cells #[.bool t, .slice D m.length d] 97)).alloc (.cells #[.bool false, .slice none 0 0] 97)) := (((Up.refl w).alloc _).alloc _).alloc _
  obtain ⟨b0, b1, r0⟩ := bx_three 97 97 97 w [.bool s, .slice A l.length c] [.bool t, .slice D m.length d] [.bool false, .slice none 0 0]
  go_enter Try.func134, Try.ntmps134
  go_wp2_with fail
  generalize (((w.alloc (.cells #[.bool s, .slice A l.length c] 97)).alloc (.cells #[.bool t, .slice D m.length d] 97)).alloc (.cells #[.bool false, .slice none 0 0] 97)) = W at *
  replace hl := hl.up UP
  replace hm := hm.up UP
  have b0_0 := b0.cell (i := 0) rfl
  have b0_1 := b0.cell (i := 1) rfl
  have b1_0 := b1.cell (i := 0) rfl
  have b1_1 := b1.cell (i := 1) rfl
  have r0_0 := r0.cell (i := 0) rfl
  have r0_1 := r0.cell (i := 1) rfl
  replace hl := hl.up (Up.refl W).drew
  replace hm := hm.up (Up.refl W).drew
  replace b0 := b0.up (Up.refl W).drew
  replace b1 := b1.up (Up.refl W).drew
  replace r0 := r0.up (Up.refl W).drew
  replace UP := UP.trans (Up.refl W).drew
  replace b0_0 := b0.cell (i := 0) rfl
  replace b0_1 := b0.cell (i := 1) rfl
  replace b1_0 := b1.cell (i := 0) rfl
  replace b1_1 := b1.cell (i := 1) rfl
  have r0_0 := r0.cell (i := 0) rfl
  have r0_1 := r0.cell (i := 1) rfl
  have r0_f0 := r0.free 0
  have r0_f1 := r0.free 1
  go_region_held3 (fun w' => Up w w' ∧ w'.cell? ⟨w.heap.size, 0, none⟩ = some (.bool s) ∧ w'.cell? ⟨w.heap.size, 1, none⟩ = some (.slice A l.length c) ∧ w'.cell? ⟨w.heap.size + 1, 0, none⟩ = some (.bool t) ∧ w'.cell? ⟨w.heap.size + 1, 1, none⟩ = some (.slice D m.length d))
      (first | with_reducible exact ⟨UP, b0_0, b0_1, b1_0, b1_1⟩ | with_reducible exact ⟨((UP.setCell (p := ⟨w.heap.size + 1 + 1, 0, none⟩) (by dsimp only; omega) _).setCell (p := ⟨w.heap.size + 1 + 1, 1, none⟩) (by dsimp only; omega) _), (cell_far_block (cell_far_block b0_0 (by dsimp only; omega)) (by dsimp only; omega)), (cell_far_block (cell_far_block b0_1 (by dsimp only; omega)) (by dsimp only; omega)), (cell_far_block (cell_far_block b1_0 (by dsimp only; omega)) (by dsimp only; omega)), (cell_far_block (cell_far_block b1_1 (by dsimp only; omega)) (by dsimp only; omega))⟩ | with_reducible exact ⟨(UP.alloc_drew _), (cell_alloc_drew b0_0), (cell_alloc_drew b0_1), (cell_alloc_drew b1_0), (cell_alloc_drew b1_1)⟩ | with_reducible exact ⟨(UP.alloc2_drew _ _), (cell_alloc2_drew b0_0), (cell_alloc2_drew b0_1), (cell_alloc2_drew b1_0), (cell_alloc2_drew b1_1)⟩ | (simp only [← World.setCell_drew]; with_reducible exact ⟨((UP.setCell (p := ⟨w.heap.size + 1 + 1, 0, none⟩) (by dsimp only; omega) _).setCell (p := ⟨w.heap.size + 1 + 1, 1, none⟩) (by dsimp only; omega) _), (cell_far_block (cell_far_block b0_0 (by dsimp only; omega)) (by dsimp only; omega)), (cell_far_block (cell_far_block b0_1 (by dsimp only; omega)) (by dsimp only; omega)), (cell_far_block (cell_far_block b1_0 (by dsimp only; omega)) (by dsimp only; omega)), (cell_far_block (cell_far_block b1_1 (by dsimp only; omega)) (by dsimp only; omega))⟩) | go_keep)
      ((first
        | (go_at_call 102
           ((with_reducible refine (ref_mul hl hm (by omega) (by omega)).mono ?_))
           intro e W1 ret1
           obtain ⟨V1, rfl, n1, u1⟩ := ret1.ws
           clear ret1
           replace hl := hl.up u1
           replace hm := hm.up u1
           try (replace n1 := n1.up u1)
           try (replace z1 := z1.up u1)
           replace b0 := b0.up u1
           replace b1 := b1.up u1
           replace r0 := r0.up u1
           replace UP := UP.trans u1
           replace b0_0 := b0.cell (i := 0) rfl
           replace b0_1 := b0.cell (i := 1) rfl
           replace b1_0 := b1.cell (i := 0) rfl
           replace b1_1 := b1.cell (i := 1) rfl
           replace r0_0 := r0.cell (i := 0) rfl
           replace r0_1 := r0.cell (i := 1) rfl
           replace r0_f0 := r0.free 0
           replace r0_f1 := r0.free 1
           clear u1
           obtain ⟨A1, k1, c1, rfl⟩ := n1.shape)
        | (go_at_call 130
           ((with_reducible refine (ref8_norm (Wh.mk (!(s == t)) n1 (k := 1000000) (by omega)) (by omega)).mono ?_))
           rintro e W2 ⟨V2, rfl, z1, u2⟩
           replace hl := hl.up u2
           replace hm := hm.up u2
           try (replace n1 := n1.up u2)
           try (replace z1 := z1.up u2)
           replace b0 := b0.up u2
           replace b1 := b1.up u2
           replace r0 := r0.up u2
           replace UP := UP.trans u2
           replace b0_0 := b0.cell (i := 0) rfl
           replace b0_1 := b0.cell (i := 1) rfl
           replace b1_0 := b1.cell (i := 0) rfl
           replace b1_1 := b1.cell (i := 1) rfl
           replace r0_0 := r0.cell (i := 0) rfl
           replace r0_1 := r0.cell (i := 1) rfl
           replace r0_f0 := r0.free 0
           replace r0_f1 := r0.free 1
           clear u2
           rw [Wd.val_words] at z1
           obtain ⟨Xz1, rfl, z1⟩ := z1
           obtain ⟨Az1, nz1, cz1, rfl⟩ := z1.shape)))
  all_goals
    go_wp2
    exact end_rz rfl rfl rfl ⟨_, rfl, z1⟩ r0 trivial trivial UP (by omega)

theorem sub_len {a b k : Nat} (ha : (Wd.words a).length ≤ k) : (Wd.words (a - b)).length ≤ k := Nat.le_trans (Wd.words_mono (Nat.sub_le _ _)) ha
set_option maxRecDepth 100000 in
set_option maxHeartbeats 6400000 in
theorem ref8_add {v u : Value} {z y : Int} {j k : Nat} {w : World} (h : Wh w v z j) (h' : Wh w u y k) (hj : j ≤ 900000) (hk : k ≤ 900000) : Calls Try.prog 106 #[v, u] w (RetZ (z + y) w) := by
  obtain ⟨s, v1, l, rfl, hl, hz, hle⟩ := h
  obtain ⟨t, v2, m, rfl, hm, hy, hme⟩ := h'
  have w1 := Nat.le_trans (Wd.words_val_length hl.ok) (show l.length ≤ 900000 by omega)
  have w2 := Nat.le_trans (Wd.words_val_length hm.ok) (show m.length ≤ 900000 by omega)
  have hlen := Wd.words_add_le1 w1 w2
  have hs1 := sub_len (b := Wd.val m) w1
  have hs2 := sub_len (b := Wd.val l) w2
  obtain ⟨A, c, rfl⟩ := hl.form
  obtain ⟨D, d, rfl⟩ := hm.form
  subst hz hy
  cases s <;> cases t
  · rw [← Wd.iv_add]
    have UP : Up w (((w.alloc (.cells #[.bool false, .slice A l.length c] 97)).alloc (.cells #[.bool false, .slice D m.length d] 97)).alloc (.cells #[.bool false, .slice none 0 0] 97)) := (((Up.refl w).alloc _).alloc _).alloc _
    obtain ⟨b0, b1, r0⟩ := bx_three 97 97 97 w [.bool false, .slice A l.length c] [.bool false, .slice D m.length d] [.bool false, .slice none 0 0]
    go_enter Try.func106, Try.ntmps106
    go_wp2_with fail
    generalize (((w.alloc (.cells #[.bool false, .slice A l.length c] 97)).alloc (.cells #[.bool false, .slice D m.length d] 97)).alloc (.cells #[.bool false, .slice none 0 0] 97)) = W at *
    replace hl := hl.up UP
    replace hm := hm.up UP
    have b0_0 := b0.cell (i := 0) rfl
    have b0_1 := b0.cell (i := 1) rfl
    have b1_0 := b1.cell (i := 0) rfl
    have b1_1 := b1.cell (i := 1) rfl
    have r0_0 := r0.cell (i := 0) rfl
    have r0_1 := r0.cell (i := 1) rfl
    replace hl := hl.up (Up.refl W).drew
    replace hm := hm.up (Up.refl W).drew
    replace b0 := b0.up (Up.refl W).drew
    replace b1 := b1.up (Up.refl W).drew
    replace r0 := r0.up (Up.refl W).drew
    replace UP := UP.trans (Up.refl W).drew
    replace b0_0 := b0.cell (i := 0) rfl
    replace b0_1 := b0.cell (i := 1) rfl
    replace b1_0 := b1.cell (i := 0) rfl
    replace b1_1 := b1.cell (i := 1) rfl
    have r0_0 := r0.cell (i := 0) rfl
    have r0_1 := r0.cell (i := 1) rfl
    have r0_f0 := r0.free 0
    have r0_f1 := r0.free 1
    go_region_held3 (fun w' => Up w w' ∧ w'.cell? ⟨w.heap.size, 0, none⟩ = some (.bool false) ∧ w'.cell? ⟨w.heap.size, 1, none⟩ = some (.slice A l.length c) ∧ w'.cell? ⟨w.heap.size + 1, 0, none⟩ = some (.bool false) ∧ w'.cell? ⟨w.heap.size + 1, 1, none⟩ = some (.slice D m.length d))
        (first | with_reducible exact ⟨UP, b0_0, b0_1, b1_0, b1_1⟩ | with_reducible exact ⟨((UP.setCell (p := ⟨w.heap.size + 1 + 1, 0, none⟩) (by dsimp only; omega) _).setCell (p := ⟨w.heap.size + 1 + 1, 1, none⟩) (by dsimp only; omega) _), (cell_far_block (cell_far_block b0_0 (by dsimp only; omega)) (by dsimp only; omega)), (cell_far_block (cell_far_block b0_1 (by dsimp only; omega)) (by dsimp only; omega)), (cell_far_block (cell_far_block b1_0 (by dsimp only; omega)) (by dsimp only; omega)), (cell_far_block (cell_far_block b1_1 (by dsimp only; omega)) (by dsimp only; omega))⟩ | with_reducible exact ⟨(UP.alloc_drew _), (cell_alloc_drew b0_0), (cell_alloc_drew b0_1), (cell_alloc_drew b1_0), (cell_alloc_drew b1_1)⟩ | with_reducible exact ⟨(UP.alloc2_drew _ _), (cell_alloc2_drew b0_0), (cell_alloc2_drew b0_1), (cell_alloc2_drew b1_0), (cell_alloc2_drew b1_1)⟩ | (simp only [← World.setCell_drew]; with_reducible exact ⟨((UP.setCell (p := ⟨w.heap.size + 1 + 1, 0, none⟩) (by dsimp only; omega) _).setCell (p := ⟨w.heap.size + 1 + 1, 1, none⟩) (by dsimp only; omega) _), (cell_far_block (cell_far_block b0_0 (by dsimp only; omega)) (by dsimp only; omega)), (cell_far_block (cell_far_block b0_1 (by dsimp only; omega)) (by dsimp only; omega)), (cell_far_block (cell_far_block b1_0 (by dsimp only; omega)) (by dsimp only; omega)), (cell_far_block (cell_far_block b1_1 (by dsimp only; omega)) (by dsimp only; omega))⟩) | go_keep)
        ((first
          | (go_at_call 99
             ((with_reducible refine (ref_add hl hm (by omega) (by omega)).mono ?_))
             intro e W1 ret1
             obtain ⟨V1, rfl, n1, u1⟩ := ret1.ws
             clear ret1
             replace hl := hl.up u1
             replace hm := hm.up u1
             try (replace n1 := n1.up u1)
             try (replace z1 := z1.up u1)
             replace b0 := b0.up u1
             replace b1 := b1.up u1
             replace r0 := r0.up u1
             replace UP := UP.trans u1
             replace b0_0 := b0.cell (i := 0) rfl
             replace b0_1 := b0.cell (i := 1) rfl
             replace b1_0 := b1.cell (i := 0) rfl
             replace b1_1 := b1.cell (i := 1) rfl
             replace r0_0 := r0.cell (i := 0) rfl
             replace r0_1 := r0.cell (i := 1) rfl
             replace r0_f0 := r0.free 0
             replace r0_f1 := r0.free 1
             clear u1
             obtain ⟨A1, k1, c1, rfl⟩ := n1.shape)
          | (go_at_call 130
             ((with_reducible refine (ref8_norm (Wh.mk false n1 (k := 1000000) (by omega)) (by omega)).mono ?_))
             rintro e W2 ⟨V2, rfl, z1, u2⟩
             replace hl := hl.up u2
             replace hm := hm.up u2
             try (replace n1 := n1.up u2)
             try (replace z1 := z1.up u2)
             replace b0 := b0.up u2
             replace b1 := b1.up u2
             replace r0 := r0.up u2
             replace UP := UP.trans u2
             replace b0_0 := b0.cell (i := 0) rfl
             replace b0_1 := b0.cell (i := 1) rfl
             replace b1_0 := b1.cell (i := 0) rfl
             replace b1_1 := b1.cell (i := 1) rfl
             replace r0_0 := r0.cell (i := 0) rfl
             replace r0_1 := r0.cell (i := 1) rfl
             replace r0_f0 := r0.free 0
             replace r0_f1 := r0.free 1
             clear u2
             rw [Wd.val_words] at z1
             obtain ⟨Xz1, rfl, z1⟩ := z1
             obtain ⟨Az1, nz1, cz1, rfl⟩ := z1.shape)))
    all_goals
      go_wp2
      exact end_rz rfl rfl rfl ⟨_, rfl, z1⟩ r0 trivial trivial UP (by omega)
  · rw [← Wd.iv_gap false true _ _ rfl]
    by_cases hlt : Wd.val l < Wd.val m
    · rw [if_pos hlt, Wd.gapN_lt hlt]
      have HC := Lib.hid (Wd.cmpI_lt hlt)
      have HLE := Lib.hid (Nat.le_of_lt hlt)
      clear hlt
      have UP : Up w (((w.alloc (.cells #[.bool false, .slice A l.length c] 97)).alloc (.cells #[.bool true, .slice D m.length d] 97)).alloc (.cells #[.bool false, .slice none 0 0] 97)) := (((Up.refl w).alloc _).alloc _).alloc _
      obtain ⟨b0, b1, r0⟩ := bx_three 97 97 97 w [.bool false, .slice A l.length c] [.bool true, .slice D m.length d] [.bool false, .slice none 0 0]
      go_enter Try.func106, Try.ntmps106
      go_wp2_with fail
      generalize (((w.alloc (.cells #[.bool false, .slice A l.length c] 97)).alloc (.cells #[.bool true, .slice D m.length d] 97)).alloc (.cells #[.bool false, .slice none 0 0] 97)) = W at *
      replace hl := hl.up UP
      replace hm := hm.up UP
      have b0_0 := b0.cell (i := 0) rfl
      have b0_1 := b0.cell (i := 1) rfl
      have b1_0 := b1.cell (i := 0) rfl
      have b1_1 := b1.cell (i := 1) rfl
      have r0_0 := r0.cell (i := 0) rfl
      have r0_1 := r0.cell (i := 1) rfl
      go_wp2_with fail
      ((with_reducible refine (ref_cmp hl hm (by omega) (by omega)).mono ?_))
      rintro e W1 ⟨rfl, rfl⟩
      rw [HC.out]
      go_wp2_with fail
      replace hl := hl.up (Up.refl W).drew
      replace hm := hm.up (Up.refl W).drew
      replace b0 := b0.up (Up.refl W).drew
      replace b1 := b1.up (Up.refl W).drew
      replace r0 := r0.up (Up.refl W).drew
      replace UP := UP.trans (Up.refl W).drew
      replace b0_0 := b0.cell (i := 0) rfl
      replace b0_1 := b0.cell (i := 1) rfl
      replace b1_0 := b1.cell (i := 0) rfl
      replace b1_1 := b1.cell (i := 1) rfl
      have r0_0 := r0.cell (i := 0) rfl
      have r0_1 := r0.cell (i := 1) rfl
      have r0_f0 := r0.free 0
      have r0_f1 := r0.free 1
      go_region_held3 (fun w' => Up w w' ∧ w'.cell? ⟨w.heap.size, 0, none⟩ = some (.bool false) ∧ w'.cell? ⟨w.heap.size, 1, none⟩ = some (.slice A l.length c) ∧ w'.cell? ⟨w.heap.size + 1, 0, none⟩ = some (.bool true) ∧ w'.cell? ⟨w.heap.size + 1, 1, none⟩ = some (.slice D m.length d))
          (first | with_reducible exact ⟨UP, b0_0, b0_1, b1_0, b1_1⟩ | with_reducible exact ⟨((UP.setCell (p := ⟨w.heap.size + 1 + 1, 0, none⟩) (by dsimp only; omega) _).setCell (p := ⟨w.heap.size + 1 + 1, 1, none⟩) (by dsimp only; omega) _), (cell_far_block (cell_far_block b0_0 (by dsimp only; omega)) (by dsimp only; omega)), (cell_far_block (cell_far_block b0_1 (by dsimp only; omega)) (by dsimp only; omega)), (cell_far_block (cell_far_block b1_0 (by dsimp only; omega)) (by dsimp only; omega)), (cell_far_block (cell_far_block b1_1 (by dsimp only; omega)) (by dsimp only; omega))⟩ | with_reducible exact ⟨(UP.alloc_drew _), (cell_alloc_drew b0_0), (cell_alloc_drew b0_1), (cell_alloc_drew b1_0), (cell_alloc_drew b1_1)⟩ | with_reducible exact ⟨(UP.alloc2_drew _ _), (cell_alloc2_drew b0_0), (cell_alloc2_drew b0_1), (cell_alloc2_drew b1_0), (cell_alloc2_drew b1_1)⟩ | (simp only [← World.setCell_drew]; with_reducible exact ⟨((UP.setCell (p := ⟨w.heap.size + 1 + 1, 0, none⟩) (by dsimp only; omega) _).setCell (p := ⟨w.heap.size + 1 + 1, 1, none⟩) (by dsimp only; omega) _), (cell_far_block (cell_far_block b0_0 (by dsimp only; omega)) (by dsimp only; omega)), (cell_far_block (cell_far_block b0_1 (by dsimp only; omega)) (by dsimp only; omega)), (cell_far_block (cell_far_block b1_0 (by dsimp only; omega)) (by dsimp only; omega)), (cell_far_block (cell_far_block b1_1 (by dsimp only; omega)) (by dsimp only; omega))⟩) | go_keep)
          ((first
            | (go_at_call 131
               ((with_reducible refine (ref_sub hm hl (by omega) (by omega) HLE.out).mono ?_))
               intro e W2 ret2
               obtain ⟨V2, rfl, n1, u2⟩ := ret2.ws
               clear ret2
               replace hl := hl.up u2
               replace hm := hm.up u2
               try (replace n1 := n1.up u2)
               try (replace z1 := z1.up u2)
               replace b0 := b0.up u2
               replace b1 := b1.up u2
               replace r0 := r0.up u2
               replace UP := UP.trans u2
               replace b0_0 := b0.cell (i := 0) rfl
               replace b0_1 := b0.cell (i := 1) rfl
               replace b1_0 := b1.cell (i := 0) rfl
               replace b1_1 := b1.cell (i := 1) rfl
               replace r0_0 := r0.cell (i := 0) rfl
               replace r0_1 := r0.cell (i := 1) rfl
               replace r0_f0 := r0.free 0
               replace r0_f1 := r0.free 1
               clear u2
               obtain ⟨A1, k1, c1, rfl⟩ := n1.shape)
            | (go_at_call 130
               ((with_reducible refine (ref8_norm (Wh.mk true n1 (k := 1000000) (by omega)) (by omega)).mono ?_))
               rintro e W3 ⟨V3, rfl, z1, u3⟩
               replace hl := hl.up u3
               replace hm := hm.up u3
               try (replace n1 := n1.up u3)
               try (replace z1 := z1.up u3)
               replace b0 := b0.up u3
               replace b1 := b1.up u3
               replace r0 := r0.up u3
               replace UP := UP.trans u3
               replace b0_0 := b0.cell (i := 0) rfl
               replace b0_1 := b0.cell (i := 1) rfl
               replace b1_0 := b1.cell (i := 0) rfl
               replace b1_1 := b1.cell (i := 1) rfl
               replace r0_0 := r0.cell (i := 0) rfl
               replace r0_1 := r0.cell (i := 1) rfl
               replace r0_f0 := r0.free 0
               replace r0_f1 := r0.free 1
               clear u3
               rw [Wd.val_words] at z1
               obtain ⟨Xz1, rfl, z1⟩ := z1
               obtain ⟨Az1, nz1, cz1, rfl⟩ := z1.shape)))
      all_goals
        go_wp2
        exact end_rz rfl rfl rfl ⟨_, rfl, z1⟩ r0 trivial trivial UP (by omega)
    · have hge : Wd.val m ≤ Wd.val l := by omega
      rw [if_neg hlt, Wd.gapN_ge hge]
      have HC : Hid (∃ t, Wd.cmpI (Wd.val l) (Wd.val m) = t ∧ 0 ≤ t) := Lib.hid ⟨_, rfl, by have := @Wd.cmpI_neg (Wd.val l) (Wd.val m); omega⟩
      have HLE := Lib.hid hge
      clear hlt hge
      have UP : Up w (((w.alloc (.cells #[.bool false, .slice A l.length c] 97)).alloc (.cells #[.bool true, .slice D m.length d] 97)).alloc (.cells #[.bool false, .slice none 0 0] 97)) := (((Up.refl w).alloc _).alloc _).alloc _
      obtain ⟨b0, b1, r0⟩ := bx_three 97 97 97 w [.bool false, .slice A l.length c] [.bool true, .slice D m.length d] [.bool false, .slice none 0 0]
      go_enter Try.func106, Try.ntmps106
      go_wp2_with fail
      generalize (((w.alloc (.cells #[.bool false, .slice A l.length c] 97)).alloc (.cells #[.bool true, .slice D m.length d] 97)).alloc (.cells #[.bool false, .slice none 0 0] 97)) = W at *
      replace hl := hl.up UP
      replace hm := hm.up UP
      have b0_0 := b0.cell (i := 0) rfl
      have b0_1 := b0.cell (i := 1) rfl
      have b1_0 := b1.cell (i := 0) rfl
      have b1_1 := b1.cell (i := 1) rfl
      have r0_0 := r0.cell (i := 0) rfl
      have r0_1 := r0.cell (i := 1) rfl
      go_wp2_with fail
      ((with_reducible refine (ref_cmp hl hm (by omega) (by omega)).mono ?_))
      rintro e W1 ⟨rfl, rfl⟩
      obtain ⟨t, ht, h0⟩ := HC.out
      rw [ht]
      clear ht
      go_wp2_with fail
      replace hl := hl.up (Up.refl W).drew
      replace hm := hm.up (Up.refl W).drew
      replace b0 := b0.up (Up.refl W).drew
      replace b1 := b1.up (Up.refl W).drew
      replace r0 := r0.up (Up.refl W).drew
      replace UP := UP.trans (Up.refl W).drew
      replace b0_0 := b0.cell (i := 0) rfl
      replace b0_1 := b0.cell (i := 1) rfl
      replace b1_0 := b1.cell (i := 0) rfl
      replace b1_1 := b1.cell (i := 1) rfl
      have r0_0 := r0.cell (i := 0) rfl
      have r0_1 := r0.cell (i := 1) rfl
      have r0_f0 := r0.free 0
      have r0_f1 := r0.free 1
      go_region_held3 (fun w' => Up w w' ∧ w'.cell? ⟨w.heap.size, 0, none⟩ = some (.bool false) ∧ w'.cell? ⟨w.heap.size, 1, none⟩ = some (.slice A l.length c) ∧ w'.cell? ⟨w.heap.size + 1, 0, none⟩ = some (.bool true) ∧ w'.cell? ⟨w.heap.size + 1, 1, none⟩ = some (.slice D m.length d))
          (first | with_reducible exact ⟨UP, b0_0, b0_1, b1_0, b1_1⟩ | with_reducible exact ⟨((UP.setCell (p := ⟨w.heap.size + 1 + 1, 0, none⟩) (by dsimp only; omega) _).setCell (p := ⟨w.heap.size + 1 + 1, 1, none⟩) (by dsimp only; omega) _), (cell_far_block (cell_far_block b0_0 (by dsimp only; omega)) (by dsimp only; omega)), (cell_far_block (cell_far_block b0_1 (by dsimp only; omega)) (by dsimp only; omega)), (cell_far_block (cell_far_block b1_0 (by dsimp only; omega)) (by dsimp only; omega)), (cell_far_block (cell_far_block b1_1 (by dsimp only; omega)) (by dsimp only; omega))⟩ | with_reducible exact ⟨(UP.alloc_drew _), (cell_alloc_drew b0_0), (cell_alloc_drew b0_1), (cell_alloc_drew b1_0), (cell_alloc_drew b1_1)⟩ | with_reducible exact ⟨(UP.alloc2_drew _ _), (cell_alloc2_drew b0_0), (cell_alloc2_drew b0_1), (cell_alloc2_drew b1_0), (cell_alloc2_drew b1_1)⟩ | (simp only [← World.setCell_drew]; with_reducible exact ⟨((UP.setCell (p := ⟨w.heap.size + 1 + 1, 0, none⟩) (by dsimp only; omega) _).setCell (p := ⟨w.heap.size + 1 + 1, 1, none⟩) (by dsimp only; omega) _), (cell_far_block (cell_far_block b0_0 (by dsimp only; omega)) (by dsimp only; omega)), (cell_far_block (cell_far_block b0_1 (by dsimp only; omega)) (by dsimp only; omega)), (cell_far_block (cell_far_block b1_0 (by dsimp only; omega)) (by dsimp only; omega)), (cell_far_block (cell_far_block b1_1 (by dsimp only; omega)) (by dsimp only; omega))⟩) | go_keep)
          ((first
            | (go_at_call 131
               ((with_reducible refine (ref_sub hl hm (by omega) (by omega) HLE.out).mono ?_))
               intro e W2 ret2
               obtain ⟨V2, rfl, n1, u2⟩ := ret2.ws
               clear ret2
               replace hl := hl.up u2
               replace hm := hm.up u2
               try (replace n1 := n1.up u2)
               try (replace z1 := z1.up u2)
               replace b0 := b0.up u2
               replace b1 := b1.up u2
               replace r0 := r0.up u2
               replace UP := UP.trans u2
               replace b0_0 := b0.cell (i := 0) rfl
               replace b0_1 := b0.cell (i := 1) rfl
               replace b1_0 := b1.cell (i := 0) rfl
               replace b1_1 := b1.cell (i := 1) rfl
               replace r0_0 := r0.cell (i := 0) rfl
               replace r0_1 := r0.cell (i := 1) rfl
               replace r0_f0 := r0.free 0
               replace r0_f1 := r0.free 1
               clear u2
               obtain ⟨A1, k1, c1, rfl⟩ := n1.shape)
            | (go_at_call 130
               ((with_reducible refine (ref8_norm (Wh.mk false n1 (k := 1000000) (by omega)) (by omega)).mono ?_))
               rintro e W3 ⟨V3, rfl, z1, u3⟩
               replace hl := hl.up u3
               replace hm := hm.up u3
               try (replace n1 := n1.up u3)
               try (replace z1 := z1.up u3)
               replace b0 := b0.up u3
               replace b1 := b1.up u3
               replace r0 := r0.up u3
               replace UP := UP.trans u3
               replace b0_0 := b0.cell (i := 0) rfl
               replace b0_1 := b0.cell (i := 1) rfl
               replace b1_0 := b1.cell (i := 0) rfl
               replace b1_1 := b1.cell (i := 1) rfl
               replace r0_0 := r0.cell (i := 0) rfl
               replace r0_1 := r0.cell (i := 1) rfl
               replace r0_f0 := r0.free 0
               replace r0_f1 := r0.free 1
               clear u3
               rw [Wd.val_words] at z1
               obtain ⟨Xz1, rfl, z1⟩ := z1
               obtain ⟨Az1, nz1, cz1, rfl⟩ := z1.shape)))
      all_goals
        go_wp2
        exact end_rz rfl rfl rfl ⟨_, rfl, z1⟩ r0 trivial trivial UP (by omega)
  · rw [← Wd.iv_gap true false _ _ rfl]
    by_cases hlt : Wd.val l < Wd.val m
    · rw [if_pos hlt, Wd.gapN_lt hlt]
      have HC := Lib.hid (Wd.cmpI_lt hlt)
      have HLE := Lib.hid (Nat.le_of_lt hlt)
      clear hlt
      have UP : Up w (((w.alloc (.cells #[.bool true, .slice A l.length c] 97)).alloc (.cells #[.bool false, .slice D m.length d] 97)).alloc (.cells #[.bool false, .slice none 0 0] 97)) := (((Up.refl w).alloc _).alloc _).alloc _
      obtain ⟨b0, b1, r0⟩ := bx_three 97 97 97 w [.bool true, .slice A l.length c] [.bool false, .slice D m.length d] [.bool false, .slice none 0 0]
      go_enter Try.func106, Try.ntmps106
      go_wp2_with fail
      generalize (((w.alloc (.cells #[.bool true, .slice A l.length c] 97)).alloc (.cells #[.bool false, .slice D m.length d] 97)).alloc (.cells #[.bool false, .slice none 0 0] 97)) = W at *
      replace hl := hl.up UP
      replace hm := hm.up UP
      have b0_0 := b0.cell (i := 0) rfl
      have b0_1 := b0.cell (i := 1) rfl
      have b1_0 := b1.cell (i := 0) rfl
      have b1_1 := b1.cell (i := 1) rfl
      have r0_0 := r0.cell (i := 0) rfl
      have r0_1 := r0.cell (i := 1) rfl
      go_wp2_with fail
      ((with_reducible refine (ref_cmp hl hm (by omega) (by omega)).mono ?_))
      rintro e W1 ⟨rfl, rfl⟩
      rw [HC.out]
      go_wp2_with fail
      replace hl := hl.up (Up.refl W).drew
      replace hm := hm.up (Up.refl W).drew
      replace b0 := b0.up (Up.refl W).drew
      replace b1 := b1.up (Up.refl W).drew
      replace r0 := r0.up (Up.refl W).drew
      replace UP := UP.trans (Up.refl W).drew
      replace b0_0 := b0.cell (i := 0) rfl
      replace b0_1 := b0.cell (i := 1) rfl
      replace b1_0 := b1.cell (i := 0) rfl
      replace b1_1 := b1.cell (i := 1) rfl
      have r0_0 := r0.cell (i := 0) rfl
      have r0_1 := r0.cell (i := 1) rfl
      have r0_f0 := r0.free 0
      have r0_f1 := r0.free 1
      go_region_held3 (fun w' => Up w w' ∧ w'.cell? ⟨w.heap.size, 0, none⟩ = some (.bool true) ∧ w'.cell? ⟨w.heap.size, 1, none⟩ = some (.slice A l.length c) ∧ w'.cell? ⟨w.heap.size + 1, 0, none⟩ = some (.bool false) ∧ w'.cell? ⟨w.heap.size + 1, 1, none⟩ = some (.slice D m.length d))
          (first | with_reducible exact ⟨UP, b0_0, b0_1, b1_0, b1_1⟩ | with_reducible exact ⟨((UP.setCell (p := ⟨w.heap.size + 1 + 1, 0, none⟩) (by dsimp only; omega) _).setCell (p := ⟨w.heap.size + 1 + 1, 1, none⟩) (by dsimp only; omega) _), (cell_far_block (cell_far_block b0_0 (by dsimp only; omega)) (by dsimp only; omega)), (cell_far_block (cell_far_block b0_1 (by dsimp only; omega)) (by dsimp only; omega)), (cell_far_block (cell_far_block b1_0 (by dsimp only; omega)) (by dsimp only; omega)), (cell_far_block (cell_far_block b1_1 (by dsimp only; omega)) (by dsimp only; omega))⟩ | with_reducible exact ⟨(UP.alloc_drew _), (cell_alloc_drew b0_0), (cell_alloc_drew b0_1), (cell_alloc_drew b1_0), (cell_alloc_drew b1_1)⟩ | with_reducible exact ⟨(UP.alloc2_drew _ _), (cell_alloc2_drew b0_0), (cell_alloc2_drew b0_1), (cell_alloc2_drew b1_0), (cell_alloc2_drew b1_1)⟩ | (simp only [← World.setCell_drew]; with_reducible exact ⟨((UP.setCell (p := ⟨w.heap.size + 1 + 1, 0, none⟩) (by dsimp only; omega) _).setCell (p := ⟨w.heap.size + 1 + 1, 1, none⟩) (by dsimp only; omega) _), (cell_far_block (cell_far_block b0_0 (by dsimp only; omega)) (by dsimp only; omega)), (cell_far_block (cell_far_block b0_1 (by dsimp only; omega)) (by dsimp only; omega)), (cell_far_block (cell_far_block b1_0 (by dsimp only; omega)) (by dsimp only; omega)), (cell_far_block (cell_far_block b1_1 (by dsimp only; omega)) (by dsimp only; omega))⟩) | go_keep)
          ((first
            | (go_at_call 131
               ((with_reducible refine (ref_sub hm hl (by omega) (by omega) HLE.out).mono ?_))
               intro e W2 ret2
               obtain ⟨V2, rfl, n1, u2⟩ := ret2.ws
               clear ret2
               replace hl := hl.up u2
               replace hm := hm.up u2
               try (replace n1 := n1.up u2)
               try (replace z1 := z1.up u2)
               replace b0 := b0.up u2
               replace b1 := b1.up u2
               replace r0 := r0.up u2
               replace UP := UP.trans u2
               replace b0_0 := b0.cell (i := 0) rfl
               replace b0_1 := b0.cell (i := 1) rfl
               replace b1_0 := b1.cell (i := 0) rfl
               replace b1_1 := b1.cell (i := 1) rfl
               replace r0_0 := r0.cell (i := 0) rfl
               replace r0_1 := r0.cell (i := 1) rfl
               replace r0_f0 := r0.free 0
               replace r0_f1 := r0.free 1
               clear u2
               obtain ⟨A1, k1, c1, rfl⟩ := n1.shape)
            | (go_at_call 130
               ((with_reducible refine (ref8_norm (Wh.mk false n1 (k := 1000000) (by omega)) (by omega)).mono ?_))
               rintro e W3 ⟨V3, rfl, z1, u3⟩
               replace hl := hl.up u3
               replace hm := hm.up u3
               try (replace n1 := n1.up u3)
               try (replace z1 := z1.up u3)
               replace b0 := b0.up u3
               replace b1 := b1.up u3
               replace r0 := r0.up u3
               replace UP := UP.trans u3
               replace b0_0 := b0.cell (i := 0) rfl
               replace b0_1 := b0.cell (i := 1) rfl
               replace b1_0 := b1.cell (i := 0) rfl
               replace b1_1 := b1.cell (i := 1) rfl
               replace r0_0 := r0.cell (i := 0) rfl
               replace r0_1 := r0.cell (i := 1) rfl
               replace r0_f0 := r0.free 0
               replace r0_f1 := r0.free 1
               clear u3
               rw [Wd.val_words] at z1
               obtain ⟨Xz1, rfl, z1⟩ := z1
               obtain ⟨Az1, nz1, cz1, rfl⟩ := z1.shape)))
      all_goals
        go_wp2
        exact end_rz rfl rfl rfl ⟨_, rfl, z1⟩ r0 trivial trivial UP (by omega)
    · have hge : Wd.val m ≤ Wd.val l := by omega
      rw [if_neg hlt, Wd.gapN_ge hge]
      have HC : Hid (∃ t, Wd.cmpI (Wd.val l) (Wd.val m) = t ∧ 0 ≤ t) := Lib.hid ⟨_, rfl, by have := @Wd.cmpI_neg (Wd.val l) (Wd.val m); omega⟩
      have HLE := Lib.hid hge
      clear hlt hge
      have UP : Up w (((w.alloc (.cells #[.bool true, .slice A l.length c] 97)).alloc (.cells #[.bool false, .slice D m.length d] 97)).alloc (.cells #[.bool false, .slice none 0 0] 97)) := (((Up.refl w).alloc _).alloc _).alloc _
      obtain ⟨b0, b1, r0⟩ := bx_three 97 97 97 w [.bool true, .slice A l.length c] [.bool false, .slice D m.length d] [.bool false, .slice none 0 0]
      go_enter Try.func106, Try.ntmps106
      go_wp2_with fail
      generalize (((w.alloc (.cells #[.bool true, .slice A l.length c] 97)).alloc (.cells #[.bool false, .slice D m.length d] 97)).alloc (.cells #[.bool false, .slice none 0 0] 97)) = W at *
      replace hl := hl.up UP
      replace hm := hm.up UP
      have b0_0 := b0.cell (i := 0) rfl
      have b0_1 := b0.cell (i := 1) rfl
      have b1_0 := b1.cell (i := 0) rfl
      have b1_1 := b1.cell (i := 1) rfl
      have r0_0 := r0.cell (i := 0) rfl
      have r0_1 := r0.cell (i := 1) rfl
      go_wp2_with fail
      ((with_reducible refine (ref_cmp hl hm (by omega) (by omega)).mono ?_))
      rintro e W1 ⟨rfl, rfl⟩
      obtain ⟨t, ht, h0⟩ := HC.out
      rw [ht]
      clear ht
      go_wp2_with fail
      replace hl := hl.up (Up.refl W).drew
      replace hm := hm.up (Up.refl W).drew
      replace b0 := b0.up (Up.refl W).drew
      replace b1 := b1.up (Up.refl W).drew
      replace r0 := r0.up (Up.refl W).drew
      replace UP := UP.trans (Up.refl W).drew
      replace b0_0 := b0.cell (i := 0) rfl
      replace b0_1 := b0.cell (i := 1) rfl
      replace b1_0 := b1.cell (i := 0) rfl
      replace b1_1 := b1.cell (i := 1) rfl
      have r0_0 := r0.cell (i := 0) rfl
      have r0_1 := r0.cell (i := 1) rfl
      have r0_f0 := r0.free 0
      have r0_f1 := r0.free 1
      go_region_held3 (fun w' => Up w w' ∧ w'.cell? ⟨w.heap.size, 0, none⟩ = some (.bool true) ∧ w'.cell? ⟨w.heap.size, 1, none⟩ = some (.slice A l.length c) ∧ w'.cell? ⟨w.heap.size + 1, 0, none⟩ = some (.bool false) ∧ w'.cell? ⟨w.heap.size + 1, 1, none⟩ = some (.slice D m.length d))
          (first | with_reducible exact ⟨UP, b0_0, b0_1, b1_0, b1_1⟩ | with_reducible exact ⟨((UP.setCell (p := ⟨w.heap.size + 1 + 1, 0, none⟩) (by dsimp only; omega) _).setCell (p := ⟨w.heap.size + 1 + 1, 1, none⟩) (by dsimp only; omega) _), (cell_far_block (cell_far_block b0_0 (by dsimp only; omega)) (by dsimp only; omega)), (cell_far_block (cell_far_block b0_1 (by dsimp only; omega)) (by dsimp only; omega)), (cell_far_block (cell_far_block b1_0 (by dsimp only; omega)) (by dsimp only; omega)), (cell_far_block (cell_far_block b1_1 (by dsimp only; omega)) (by dsimp only; omega))⟩ | with_reducible exact ⟨(UP.alloc_drew _), (cell_alloc_drew b0_0), (cell_alloc_drew b0_1), (cell_alloc_drew b1_0), (cell_alloc_drew b1_1)⟩ | with_reducible exact ⟨(UP.alloc2_drew _ _), (cell_alloc2_drew b0_0), (cell_alloc2_drew b0_1), (cell_alloc2_drew b1_0), (cell_alloc2_drew b1_1)⟩ | (simp only [← World.setCell_drew]; with_reducible exact ⟨((UP.setCell (p := ⟨w.heap.size + 1 + 1, 0, none⟩) (by dsimp only; omega) _).setCell (p := ⟨w.heap.size + 1 + 1, 1, none⟩) (by dsimp only; omega) _), (cell_far_block (cell_far_block b0_0 (by dsimp only; omega)) (by dsimp only; omega)), (cell_far_block (cell_far_block b0_1 (by dsimp only; omega)) (by dsimp only; omega)), (cell_far_block (cell_far_block b1_0 (by dsimp only; omega)) (by dsimp only; omega)), (cell_far_block (cell_far_block b1_1 (by dsimp only; omega)) (by dsimp only; omega))⟩) | go_keep)
          ((first
            | (go_at_call 131
               ((with_reducible refine (ref_sub hl hm (by omega) (by omega) HLE.out).mono ?_))
               intro e W2 ret2
               obtain ⟨V2, rfl, n1, u2⟩ := ret2.ws
               clear ret2
               replace hl := hl.up u2
               replace hm := hm.up u2
               try (replace n1 := n1.up u2)
               try (replace z1 := z1.up u2)
               replace b0 := b0.up u2
               replace b1 := b1.up u2
               replace r0 := r0.up u2
               replace UP := UP.trans u2
               replace b0_0 := b0.cell (i := 0) rfl
               replace b0_1 := b0.cell (i := 1) rfl
               replace b1_0 := b1.cell (i := 0) rfl
               replace b1_1 := b1.cell (i := 1) rfl
               replace r0_0 := r0.cell (i := 0) rfl
               replace r0_1 := r0.cell (i := 1) rfl
               replace r0_f0 := r0.free 0
               replace r0_f1 := r0.free 1
               clear u2
               obtain ⟨A1, k1, c1, rfl⟩ := n1.shape)
            | (go_at_call 130
               ((with_reducible refine (ref8_norm (Wh.mk true n1 (k := 1000000) (by omega)) (by omega)).mono ?_))
               rintro e W3 ⟨V3, rfl, z1, u3⟩
               replace hl := hl.up u3
               replace hm := hm.up u3
               try (replace n1 := n1.up u3)
               try (replace z1 := z1.up u3)
               replace b0 := b0.up u3
               replace b1 := b1.up u3
               replace r0 := r0.up u3
               replace UP := UP.trans u3
               replace b0_0 := b0.cell (i := 0) rfl
               replace b0_1 := b0.cell (i := 1) rfl
               replace b1_0 := b1.cell (i := 0) rfl
               replace b1_1 := b1.cell (i := 1) rfl
               replace r0_0 := r0.cell (i := 0) rfl
               replace r0_1 := r0.cell (i := 1) rfl
               replace r0_f0 := r0.free 0
               replace r0_f1 := r0.free 1
               clear u3
               rw [Wd.val_words] at z1
               obtain ⟨Xz1, rfl, z1⟩ := z1
               obtain ⟨Az1, nz1, cz1, rfl⟩ := z1.shape)))
      all_goals
        go_wp2
        exact end_rz rfl rfl rfl ⟨_, rfl, z1⟩ r0 trivial trivial UP (by omega)
  · rw [← Wd.iv_add]
    have UP : Up w (((w.alloc (.cells #[.bool true, .slice A l.length c] 97)).alloc (.cells #[.bool true, .slice D m.length d] 97)).alloc (.cells #[.bool false, .slice none 0 0] 97)) := (((Up.refl w).alloc _).alloc _).alloc _
    obtain ⟨b0, b1, r0⟩ := bx_three 97 97 97 w [.bool true, .slice A l.length c] [.bool true, .slice D m.length d] [.bool false, .slice none 0 0]
    go_enter Try.func106, Try.ntmps106
    go_wp2_with fail
    generalize (((w.alloc (.cells #[.bool true, .slice A l.length c] 97)).alloc (.cells #[.bool true, .slice D m.length d] 97)).alloc (.cells #[.bool false, .slice none 0 0] 97)) = W at *
    replace hl := hl.up UP
    replace hm := hm.up UP
    have b0_0 := b0.cell (i := 0) rfl
    have b0_1 := b0.cell (i := 1) rfl
    have b1_0 := b1.cell (i := 0) rfl
    have b1_1 := b1.cell (i := 1) rfl
    have r0_0 := r0.cell (i := 0) rfl
    have r0_1 := r0.cell (i := 1) rfl
    replace hl := hl.up (Up.refl W).drew
    replace hm := hm.up (Up.refl W).drew
    replace b0 := b0.up (Up.refl W).drew
    replace b1 := b1.up (Up.refl W).drew
    replace r0 := r0.up (Up.refl W).drew
    replace UP := UP.trans (Up.refl W).drew
    replace b0_0 := b0.cell (i := 0) rfl
    replace b0_1 := b0.cell (i := 1) rfl
    replace b1_0 := b1.cell (i := 0) rfl
    replace b1_1 := b1.cell (i := 1) rfl
    have r0_0 := r0.cell (i := 0) rfl
    have r0_1 := r0.cell (i := 1) rfl
    have r0_f0 := r0.free 0
    have r0_f1 := r0.free 1
    go_region_held3 (fun w' => Up w w' ∧ w'.cell? ⟨w.heap.size, 0, none⟩ = some (.bool true) ∧ w'.cell? ⟨w.heap.size, 1, none⟩ = some (.slice A l.length c) ∧ w'.cell? ⟨w.heap.size + 1, 0, none⟩ = some (.bool true) ∧ w'.cell? ⟨w.heap.size + 1, 1, none⟩ = some (.slice D m.length d))
        (first | with_reducible exact ⟨UP, b0_0, b0_1, b1_0, b1_1⟩ | with_reducible exact ⟨((UP.setCell (p := ⟨w.heap.size + 1 + 1, 0, none⟩) (by dsimp only; omega) _).setCell (p := ⟨w.heap.size + 1 + 1, 1, none⟩) (by dsimp only; omega) _), (cell_far_block (cell_far_block b0_0 (by dsimp only; omega)) (by dsimp only; omega)), (cell_far_block (cell_far_block b0_1 (by dsimp only; omega)) (by dsimp only; omega)), (cell_far_block (cell_far_block b1_0 (by dsimp only; omega)) (by dsimp only; omega)), (cell_far_block (cell_far_block b1_1 (by dsimp only; omega)) (by dsimp only; omega))⟩ | with_reducible exact ⟨(UP.alloc_drew _), (cell_alloc_drew b0_0), (cell_alloc_drew b0_1), (cell_alloc_drew b1_0), (cell_alloc_drew b1_1)⟩ | with_reducible exact ⟨(UP.alloc2_drew _ _), (cell_alloc2_drew b0_0), (cell_alloc2_drew b0_1), (cell_alloc2_drew b1_0), (cell_alloc2_drew b1_1)⟩ | (simp only [← World.setCell_drew]; with_reducible exact ⟨((UP.setCell (p := ⟨w.heap.size + 1 + 1, 0, none⟩) (by dsimp only; omega) _).setCell (p := ⟨w.heap.size + 1 + 1, 1, none⟩) (by dsimp only; omega) _), (cell_far_block (cell_far_block b0_0 (by dsimp only; omega)) (by dsimp only; omega)), (cell_far_block (cell_far_block b0_1 (by dsimp only; omega)) (by dsimp only; omega)), (cell_far_block (cell_far_block b1_0 (by dsimp only; omega)) (by dsimp only; omega)), (cell_far_block (cell_far_block b1_1 (by dsimp only; omega)) (by dsimp only; omega))⟩) | go_keep)
        ((first
          | (go_at_call 99
             ((with_reducible refine (ref_add hl hm (by omega) (by omega)).mono ?_))
             intro e W1 ret1
             obtain ⟨V1, rfl, n1, u1⟩ := ret1.ws
             clear ret1
             replace hl := hl.up u1
             replace hm := hm.up u1
             try (replace n1 := n1.up u1)
             try (replace z1 := z1.up u1)
             replace b0 := b0.up u1
             replace b1 := b1.up u1
             replace r0 := r0.up u1
             replace UP := UP.trans u1
             replace b0_0 := b0.cell (i := 0) rfl
             replace b0_1 := b0.cell (i := 1) rfl
             replace b1_0 := b1.cell (i := 0) rfl
             replace b1_1 := b1.cell (i := 1) rfl
             replace r0_0 := r0.cell (i := 0) rfl
             replace r0_1 := r0.cell (i := 1) rfl
             replace r0_f0 := r0.free 0
             replace r0_f1 := r0.free 1
             clear u1
             obtain ⟨A1, k1, c1, rfl⟩ := n1.shape)
          | (go_at_call 130
             ((with_reducible refine (ref8_norm (Wh.mk true n1 (k := 1000000) (by omega)) (by omega)).mono ?_))
             rintro e W2 ⟨V2, rfl, z1, u2⟩
             replace hl := hl.up u2
             replace hm := hm.up u2
             try (replace n1 := n1.up u2)
             try (replace z1 := z1.up u2)
             replace b0 := b0.up u2
             replace b1 := b1.up u2
             replace r0 := r0.up u2
             replace UP := UP.trans u2
             replace b0_0 := b0.cell (i := 0) rfl
             replace b0_1 := b0.cell (i := 1) rfl
             replace b1_0 := b1.cell (i := 0) rfl
             replace b1_1 := b1.cell (i := 1) rfl
             replace r0_0 := r0.cell (i := 0) rfl
             replace r0_1 := r0.cell (i := 1) rfl
             replace r0_f0 := r0.free 0
             replace r0_f1 := r0.free 1
             clear u2
             rw [Wd.val_words] at z1
             obtain ⟨Xz1, rfl, z1⟩ := z1
             obtain ⟨Az1, nz1, cz1, rfl⟩ := z1.shape)))
    all_goals
      go_wp2
      exact end_rz rfl rfl rfl ⟨_, rfl, z1⟩ r0 trivial trivial UP (by omega)
end Go.Proofs.Ytjkkeilmnklpcaa
