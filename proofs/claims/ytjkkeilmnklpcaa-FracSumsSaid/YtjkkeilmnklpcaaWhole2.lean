/-
  Layer 8: whole numbers with a sign: those of the machine, differences, order, the floor.
-/
import Derived.Test.YtjkkeilmnklpcaaWhole
set_option linter.unusedVariables false
set_option linter.unusedSimpArgs false
namespace Go.Proofs.Ytjkkeilmnklpcaa
open Go.RowKit

theorem u64_neg {n : Int} (h : n < 0) (h2 : -9223372036854775808 ≤ n) : IntKind.u64.wrap (-IntKind.u64.wrap n) = (n.natAbs : Int) := by
  rw [IntKind.wrap_u64, IntKind.wrap_u64]; omega
set_option maxHeartbeats 1600000 in
theorem whole_of {n : Int} (hn : -9223372036854775808 ≤ n ∧ n ≤ 9223372036854775807) (w : World) : Calls Try.prog 103 #[.int .i64 n] w (RetZ n w) := by
  have hlen : (Wd.words n.natAbs).length ≤ 2 := Wd.words_64 (by omega)
  by_cases h : n < 0
  · have e : Wd.iv true n.natAbs = n := by rw [Wd.iv_true]; omega
    have E := Lib.hid e
    clear e
    have UP : Up w (w.alloc (.cells #[.bool false, .slice none 0 0] 65)) := (Up.refl w).alloc _
    have r0 := Bx.new 65 w [.bool false, .slice none 0 0]
    go_enter Try.func103, Try.ntmps103
    go_wp2_with fail
    generalize (w.alloc (.cells #[.bool false, .slice none 0 0] 65)) = W at *
    have r0_0 := r0.cell (i := 0) rfl
    have r0_1 := r0.cell (i := 1) rfl
    go_wp2_with fail
    ((with_reducible refine (nat_of n.natAbs (by rw [u64_neg (by omega) (by omega)]) (by omega) _).mono ?_))
    rintro e W1 ⟨V1, rfl, n1, u1⟩
    replace r0 := r0.up u1
    replace UP := UP.trans u1
    replace r0_0 := r0.cell (i := 0) rfl
    replace r0_1 := r0.cell (i := 1) rfl
    clear u1
    go_wp2_with fail
    ((with_reducible refine (whole_signed n1 (by omega)).mono ?_))
    rintro e W2 ⟨V2, rfl, z1, u2⟩
    replace n1 := n1.up u2
    replace r0 := r0.up u2
    replace UP := UP.trans u2
    replace r0_0 := r0.cell (i := 0) rfl
    replace r0_1 := r0.cell (i := 1) rfl
    clear u2
    rw [E.out] at z1
    obtain ⟨Xz1, rfl, z1⟩ := z1
    obtain ⟨Az1, nz1, cz1, rfl⟩ := z1.shape
    have q0 := r0.free 0
    have q1 := r0.free 1
    go_wp2
    exact end_z rfl rfl rfl ⟨_, rfl, z1⟩ r0 trivial trivial UP (by omega)
  · have e : Wd.iv false n.natAbs = n := by rw [Wd.iv_false]; omega
    have E := Lib.hid e
    clear e
    have UP : Up w (w.alloc (.cells #[.bool false, .slice none 0 0] 65)) := (Up.refl w).alloc _
    have r0 := Bx.new 65 w [.bool false, .slice none 0 0]
    go_enter Try.func103, Try.ntmps103
    go_wp2_with fail
    generalize (w.alloc (.cells #[.bool false, .slice none 0 0] 65)) = W at *
    have r0_0 := r0.cell (i := 0) rfl
    have r0_1 := r0.cell (i := 1) rfl
    go_wp2_with fail
    ((with_reducible refine (nat_of n.natAbs (by first | (rw [IntKind.wrap_u64]; omega) | omega) (by omega) _).mono ?_))
    rintro e W1 ⟨V1, rfl, n1, u1⟩
    replace r0 := r0.up u1
    replace UP := UP.trans u1
    replace r0_0 := r0.cell (i := 0) rfl
    replace r0_1 := r0.cell (i := 1) rfl
    clear u1
    go_wp2_with fail
    ((with_reducible refine (whole_signed n1 (by omega)).mono ?_))
    rintro e W2 ⟨V2, rfl, z1, u2⟩
    replace n1 := n1.up u2
    replace r0 := r0.up u2
    replace UP := UP.trans u2
    replace r0_0 := r0.cell (i := 0) rfl
    replace r0_1 := r0.cell (i := 1) rfl
    clear u2
    rw [E.out] at z1
    obtain ⟨Xz1, rfl, z1⟩ := z1
    obtain ⟨Az1, nz1, cz1, rfl⟩ := z1.shape
    have q0 := r0.free 0
    have q1 := r0.free 1
    go_wp2
    exact end_z rfl rfl rfl ⟨_, rfl, z1⟩ r0 trivial trivial UP (by omega)

set_option maxHeartbeats 1600000 in
theorem whole_sub {v u : Value} {z y : Int} {j k : Nat} {w : World} (h : Wh w v z j) (h' : Wh w u y k) (hj : j ≤ 900000) (hk : k ≤ 900000) : Calls Try.prog 107 #[v, u] w (RetZ (z - y) w) := by
  have H1 := h
  have H2 := h'
  rw [Int.sub_eq_add_neg]
  obtain ⟨s, v1, l, rfl, hl, hz, hle⟩ := h
  obtain ⟨t, v2, m, rfl, hm, hy, hme⟩ := h'
  obtain ⟨A, c, rfl⟩ := hl.form
  obtain ⟨D, d, rfl⟩ := hm.form
  clear hl hm hz hy
  have UP : Up w (((w.alloc (.cells #[.bool s, .slice A l.length c] 65)).alloc (.cells #[.bool t, .slice D m.length d] 65)).alloc (.cells #[.bool false, .slice none 0 0] 65)) := (((Up.refl w).alloc _).alloc _).alloc _
  obtain ⟨b0, b1, r0⟩ := bx_three 65 65 65 w [.bool s, .slice A l.length c] [.bool t, .slice D m.length d] [.bool false, .slice none 0 0]
  go_enter Try.func107, Try.ntmps107
  go_wp2_with fail
  generalize (((w.alloc (.cells #[.bool s, .slice A l.length c] 65)).alloc (.cells #[.bool t, .slice D m.length d] 65)).alloc (.cells #[.bool false, .slice none 0 0] 65)) = W at *
  replace H1 := H1.up UP
  replace H2 := H2.up UP
  have b0_0 := b0.cell (i := 0) rfl
  have b0_1 := b0.cell (i := 1) rfl
  have b1_0 := b1.cell (i := 0) rfl
  have b1_1 := b1.cell (i := 1) rfl
  have r0_0 := r0.cell (i := 0) rfl
  have r0_1 := r0.cell (i := 1) rfl
  replace H1 := H1.up (Up.refl W).drew
  replace H2 := H2.up (Up.refl W).drew
  replace b0 := b0.up (Up.refl W).drew
  replace b1 := b1.up (Up.refl W).drew
  replace r0 := r0.up (Up.refl W).drew
  replace UP := UP.trans (Up.refl W).drew
  replace b0_0 := b0.cell (i := 0) rfl
  replace b0_1 := b0.cell (i := 1) rfl
  replace b1_0 := b1.cell (i := 0) rfl
  replace b1_1 := b1.cell (i := 1) rfl
  have r0_0 := r0.cell (i := 0) rfl
  have r0_1 := r0.cell (i := 1) rfl
  have r0_f0 := r0.free 0
  have r0_f1 := r0.free 1
  go_region_held3 (fun w' => Up w w' ∧ w'.cell? ⟨w.heap.size, 0, none⟩ = some (.bool s) ∧ w'.cell? ⟨w.heap.size, 1, none⟩ = some (.slice A l.length c) ∧ w'.cell? ⟨w.heap.size + 1, 0, none⟩ = some (.bool t) ∧ w'.cell? ⟨w.heap.size + 1, 1, none⟩ = some (.slice D m.length d))
      (first | with_reducible exact ⟨UP, b0_0, b0_1, b1_0, b1_1⟩ | with_reducible exact ⟨((UP.setCell (p := ⟨w.heap.size + 1 + 1, 0, none⟩) (by dsimp only; omega) _).setCell (p := ⟨w.heap.size + 1 + 1, 1, none⟩) (by dsimp only; omega) _), (cell_far_block (cell_far_block b0_0 (by dsimp only; omega)) (by dsimp only; omega)), (cell_far_block (cell_far_block b0_1 (by dsimp only; omega)) (by dsimp only; omega)), (cell_far_block (cell_far_block b1_0 (by dsimp only; omega)) (by dsimp only; omega)), (cell_far_block (cell_far_block b1_1 (by dsimp only; omega)) (by dsimp only; omega))⟩ | with_reducible exact ⟨(UP.alloc_drew _), (cell_alloc_drew b0_0), (cell_alloc_drew b0_1), (cell_alloc_drew b1_0), (cell_alloc_drew b1_1)⟩ | with_reducible exact ⟨(UP.alloc2_drew _ _), (cell_alloc2_drew b0_0), (cell_alloc2_drew b0_1), (cell_alloc2_drew b1_0), (cell_alloc2_drew b1_1)⟩ | (simp only [← World.setCell_drew]; with_reducible exact ⟨((UP.setCell (p := ⟨w.heap.size + 1 + 1, 0, none⟩) (by dsimp only; omega) _).setCell (p := ⟨w.heap.size + 1 + 1, 1, none⟩) (by dsimp only; omega) _), (cell_far_block (cell_far_block b0_0 (by dsimp only; omega)) (by dsimp only; omega)), (cell_far_block (cell_far_block b0_1 (by dsimp only; omega)) (by dsimp only; omega)), (cell_far_block (cell_far_block b1_0 (by dsimp only; omega)) (by dsimp only; omega)), (cell_far_block (cell_far_block b1_1 (by dsimp only; omega)) (by dsimp only; omega))⟩) | go_keep)
      ((first
        | (go_at_call 105
           ((with_reducible refine (whole_neg H2 (by omega)).mono ?_))
           rintro e W1 ⟨V1, rfl, n1, u1⟩
           replace H1 := H1.up u1
           replace H2 := H2.up u1
           try (replace n1 := n1.up u1)
           try (replace z1 := z1.up u1)
           replace b0 := b0.up u1
           replace b1 := b1.up u1
           replace r0 := r0.up u1
           replace UP := UP.trans u1
           replace b0_0 := b0.cell (i := 0) rfl
           replace b0_1 := b0.cell (i := 1) rfl
           replace b1_0 := b1.cell (i := 0) rfl
           replace b1_1 := b1.cell (i := 1) rfl
           replace r0_0 := r0.cell (i := 0) rfl
           replace r0_1 := r0.cell (i := 1) rfl
           replace r0_f0 := r0.free 0
           replace r0_f1 := r0.free 1
           clear u1)
        | (go_at_call 98
           ((with_reducible refine (whole_add H1 (n1.wh (H2.lz.neg)) (by omega) (by omega)).mono ?_))
           rintro e W2 ⟨V2, rfl, z1, u2⟩
           replace H1 := H1.up u2
           replace H2 := H2.up u2
           try (replace n1 := n1.up u2)
           try (replace z1 := z1.up u2)
           replace b0 := b0.up u2
           replace b1 := b1.up u2
           replace r0 := r0.up u2
           replace UP := UP.trans u2
           replace b0_0 := b0.cell (i := 0) rfl
           replace b0_1 := b0.cell (i := 1) rfl
           replace b1_0 := b1.cell (i := 0) rfl
           replace b1_1 := b1.cell (i := 1) rfl
           replace r0_0 := r0.cell (i := 0) rfl
           replace r0_1 := r0.cell (i := 1) rfl
           replace r0_f0 := r0.free 0
           replace r0_f1 := r0.free 1
           clear u2
           obtain ⟨Xz1, rfl, z1⟩ := z1
           obtain ⟨Az1, nz1, cz1, rfl⟩ := z1.shape)))
  go_wp2
  exact end_z rfl rfl rfl ⟨_, rfl, z1⟩ r0 trivial trivial UP (by omega)

set_option maxHeartbeats 1600000 in
theorem whole_cmp {v u : Value} {z y : Int} {j k : Nat} {w : World} (h : Wh w v z j) (h' : Wh w u y k) (hj : j ≤ 900000) (hk : k ≤ 900000) : Calls Try.prog 96 #[v, u] w (RetN (Wd.sgn (z - y)) w) := by
  have H1 := h
  have H2 := h'
  obtain ⟨s, v1, l, rfl, hl, hz, hle⟩ := h
  obtain ⟨t, v2, m, rfl, hm, hy, hme⟩ := h'
  obtain ⟨A, c, rfl⟩ := hl.form
  obtain ⟨D, d, rfl⟩ := hm.form
  have HL := (H1.lz.mono hj).add (H2.lz.neg.mono hk)
  rw [← Int.sub_eq_add_neg] at HL
  clear hl hm hz hy
  have UP : Up w ((w.alloc (.cells #[.bool s, .slice A l.length c] 65)).alloc (.cells #[.bool t, .slice D m.length d] 65)) := ((Up.refl w).alloc _).alloc _
  obtain ⟨b0, b1⟩ := bx_two 65 65 w [.bool s, .slice A l.length c] [.bool t, .slice D m.length d]
  go_enter Try.func96, Try.ntmps96
  go_wp2_with fail
  generalize ((w.alloc (.cells #[.bool s, .slice A l.length c] 65)).alloc (.cells #[.bool t, .slice D m.length d] 65)) = W at *
  replace H1 := H1.up UP
  replace H2 := H2.up UP
  have b0_0 := b0.cell (i := 0) rfl
  have b0_1 := b0.cell (i := 1) rfl
  have b1_0 := b1.cell (i := 0) rfl
  have b1_1 := b1.cell (i := 1) rfl
  go_wp2_with fail
  ((with_reducible refine (whole_sub H1 H2 (by omega) (by omega)).mono ?_))
  rintro e W1 ⟨V1, rfl, z1, u1⟩
  replace H1 := H1.up u1
  replace H2 := H2.up u1
  replace b0 := b0.up u1
  replace b1 := b1.up u1
  replace UP := UP.trans u1
  replace b0_0 := b0.cell (i := 0) rfl
  replace b0_1 := b0.cell (i := 1) rfl
  replace b1_0 := b1.cell (i := 0) rfl
  replace b1_1 := b1.cell (i := 1) rfl
  clear u1
  go_wp2_with fail
  ((with_reducible refine (whole_sign (z1.wh HL) (by omega)).mono ?_))
  rintro e W2 ⟨rfl, u2⟩
  replace H1 := H1.up u2
  replace H2 := H2.up u2
  replace z1 := z1.up u2
  replace b0 := b0.up u2
  replace b1 := b1.up u2
  replace UP := UP.trans u2
  replace b0_0 := b0.cell (i := 0) rfl
  replace b0_1 := b0.cell (i := 1) rfl
  replace b1_0 := b1.cell (i := 0) rfl
  replace b1_1 := b1.cell (i := 1) rfl
  clear u2
  go_wp2
  go_ret
  exact ⟨rfl, UP⟩

theorem one_len : (Wd.words (Int.natAbs 1)).length = 1 := by
  have h1 : (Wd.words 1).length ≤ 1 := Wd.words_one_len
  have h2 : (Wd.words 1).length ≠ 0 := fun h => by have := Wd.words_length_zero.1 h; omega
  show (Wd.words 1).length = 1
  omega
theorem lz_one : Wd.Lz 1 1 := Wd.words_one_len
/-- What comes back of the floor: it, something left, and that there is one. -/
def RetFl (q : Int) (w : World) (e : Ending) (w' : World) : Prop := ∃ V R y, e = .returned (.tuple #[V, R, .bool true]) ∧ Zw w' V q ∧ Zw w' R y ∧ Up w w'

set_option maxRecDepth 100000 in
set_option maxHeartbeats 6400000 in
theorem whole_floor {v u : Value} {z y : Int} {j k : Nat} {w : World} (h : Wh w v z j) (h' : Wh w u y k) (hj : j ≤ 400000) (hk : k ≤ 400000) (hy0 : 0 < y) : Calls Try.prog 109 #[v, u] w (RetFl (z / y) w) := by
  have H1 := h
  have H2 := h'
  obtain ⟨s, v1, l, rfl, hl, hz, hle⟩ := h
  obtain ⟨t, v2, m, rfl, hm, hy, hme⟩ := h'
  obtain ⟨A, c, rfl⟩ := hl.form
  obtain ⟨D, d, rfl⟩ := hm.form
  have hM : Wd.val m ≠ 0 := by rintro h0; rw [h0, Wd.iv_zero] at hy; omega
  have hQ : (Wd.words (Wd.val l / Wd.val m)).length ≤ 400000 := Nat.le_trans (Nat.le_trans (Wd.words_mono (Nat.div_le_self _ _)) (Wd.words_val_length hl.ok)) (by omega)
  have HQ2 : Wd.Lz (Wd.iv (s != t) (Wd.val l / Wd.val m)) 400000 := Wd.Lz.iv hQ
  have hm0 := Wd.floor_math (s := s) (t := t) (N := Wd.val l) (M := Wd.val m) (by rw [hy]; exact hy0)
  rw [hz, hy] at hm0
  have HY : Hid (Wd.sgn y = 1) := Lib.hid (Wd.sgn_pos hy0)
  generalize hq : Wd.iv (s != t) (Wd.val l / Wd.val m) = q at *
  have HQ := Lib.hid hq
  have LQY := HQ2.mul (H2.lz.mono hk)
  have LR := (H1.lz.mono hj).add LQY.neg
  rw [← Int.sub_eq_add_neg] at LR
  have HM := Lib.hid hM
  clear hM hz hy hq
  generalize hr : z - q * y = r at *
  have HR := Lib.hid hr
  have L1 := (HQ2.add (Wd.Lz.neg (z := 1) (k := 1) Wd.words_one_len))
  clear hr
  rcases hm0 with ⟨hneg, he⟩ | ⟨hpos, he⟩
  · have HE := Lib.hid he
    have HS : Hid (Wd.sgn r = -1) := Lib.hid (Wd.sgn_neg hneg)
    clear he hneg
    have UP : Up w ((((w.alloc (.cells #[.bool s, .slice A l.length c] 65)).alloc (.cells #[.bool t, .slice D m.length d] 65)).alloc (.cells #[.bool false, .slice none 0 0] 65)).alloc (.cells #[.bool false, .slice none 0 0] 65)) := ((((Up.refl w).alloc _).alloc _).alloc _).alloc _
    obtain ⟨b0, b1, q0, r0⟩ := bx_four 65 65 65 65 w [.bool s, .slice A l.length c] [.bool t, .slice D m.length d] [.bool false, .slice none 0 0] [.bool false, .slice none 0 0]
    go_enter Try.func109, Try.ntmps109
    go_wp2_with fail
    generalize ((((w.alloc (.cells #[.bool s, .slice A l.length c] 65)).alloc (.cells #[.bool t, .slice D m.length d] 65)).alloc (.cells #[.bool false, .slice none 0 0] 65)).alloc (.cells #[.bool false, .slice none 0 0] 65)) = W at *
    replace hl := hl.up UP
    replace hm := hm.up UP
    replace H1 := H1.up UP
    replace H2 := H2.up UP
    have b0_0 := b0.cell (i := 0) rfl
    have b0_1 := b0.cell (i := 1) rfl
    have b1_0 := b1.cell (i := 0) rfl
    have b1_1 := b1.cell (i := 1) rfl
    have q0_0 := q0.cell (i := 0) rfl
    have q0_1 := q0.cell (i := 1) rfl
    have r0_0 := r0.cell (i := 0) rfl
    have r0_1 := r0.cell (i := 1) rfl
    go_wp2_with fail
    ((with_reducible refine (quot_div hl hm (by omega) (by omega) HM.out).mono ?_))
    rintro e W1 ⟨V1, V1', rfl, n1, n2, u1⟩
    replace hl := hl.up u1
    replace hm := hm.up u1
    replace H1 := H1.up u1
    replace H2 := H2.up u1
    replace b0 := b0.up u1
    replace b1 := b1.up u1
    replace q0 := q0.up u1
    replace r0 := r0.up u1
    replace UP := UP.trans u1
    replace b0_0 := b0.cell (i := 0) rfl
    replace b0_1 := b0.cell (i := 1) rfl
    replace b1_0 := b1.cell (i := 0) rfl
    replace b1_1 := b1.cell (i := 1) rfl
    replace q0_0 := q0.cell (i := 0) rfl
    replace q0_1 := q0.cell (i := 1) rfl
    replace r0_0 := r0.cell (i := 0) rfl
    replace r0_1 := r0.cell (i := 1) rfl
    clear u1
    go_wp2_with fail
    ((with_reducible refine (whole_signed n1 (by omega)).mono ?_))
    rintro e W2 ⟨V2, rfl, z1, u2⟩
    replace hl := hl.up u2
    replace hm := hm.up u2
    replace H1 := H1.up u2
    replace H2 := H2.up u2
    replace n1 := n1.up u2
    replace n2 := n2.up u2
    replace b0 := b0.up u2
    replace b1 := b1.up u2
    replace q0 := q0.up u2
    replace r0 := r0.up u2
    replace UP := UP.trans u2
    replace b0_0 := b0.cell (i := 0) rfl
    replace b0_1 := b0.cell (i := 1) rfl
    replace b1_0 := b1.cell (i := 0) rfl
    replace b1_1 := b1.cell (i := 1) rfl
    replace q0_0 := q0.cell (i := 0) rfl
    replace q0_1 := q0.cell (i := 1) rfl
    replace r0_0 := r0.cell (i := 0) rfl
    replace r0_1 := r0.cell (i := 1) rfl
    clear u2
    rw [show Wd.iv (!s == t) (Wd.val l / Wd.val m) = q from HQ.out] at z1
    obtain ⟨Xz1, rfl, z1⟩ := z1
    obtain ⟨Az1, nz1, cz1, rfl⟩ := z1.shape
    have qf0 := q0.free 0
    have qf1 := q0.free 1
    go_wp2_with fail
    clear qf0 qf1
    have KW : Kw (W2) ((W2).setCell ⟨w.heap.size + 1 + 1, 0, none⟩ (.bool (Wd.ngb q))) := Kw.store (c := (.bool false)) q0 rfl trivial _
    replace hl := hl.kw KW
    replace hm := hm.kw KW
    replace H1 := H1.kw KW
    replace H2 := H2.kw KW
    replace n1 := n1.kw KW
    replace n2 := n2.kw KW
    replace z1 := z1.kw KW
    replace b0 := b0.far (p := ⟨w.heap.size + 1 + 1, 0, none⟩) (by dsimp only; omega) (.bool (Wd.ngb q))
    replace b1 := b1.far (p := ⟨w.heap.size + 1 + 1, 0, none⟩) (by dsimp only; omega) (.bool (Wd.ngb q))
    replace r0 := r0.far (p := ⟨w.heap.size + 1 + 1, 0, none⟩) (by dsimp only; omega) (.bool (Wd.ngb q))
    replace q0 : Bx 65 ((W2).setCell ⟨w.heap.size + 1 + 1, 0, none⟩ (.bool (Wd.ngb q))) (w.heap.size + 1 + 1) [.bool (Wd.ngb q), .slice none 0 0] := q0.set 0 (.bool (Wd.ngb q))
    replace UP := UP.setCell (p := ⟨w.heap.size + 1 + 1, 0, none⟩) (by dsimp only; omega) (.bool (Wd.ngb q))
    have KW : Kw (((W2).setCell ⟨w.heap.size + 1 + 1, 0, none⟩ (.bool (Wd.ngb q)))) ((((W2).setCell ⟨w.heap.size + 1 + 1, 0, none⟩ (.bool (Wd.ngb q)))).setCell ⟨w.heap.size + 1 + 1, 1, none⟩ (.slice Az1 nz1 cz1)) := Kw.store (c := (.slice none 0 0)) q0 rfl trivial _
    replace hl := hl.kw KW
    replace hm := hm.kw KW
    replace H1 := H1.kw KW
    replace H2 := H2.kw KW
    replace n1 := n1.kw KW
    replace n2 := n2.kw KW
    replace z1 := z1.kw KW
    replace b0 := b0.far (p := ⟨w.heap.size + 1 + 1, 1, none⟩) (by dsimp only; omega) (.slice Az1 nz1 cz1)
    replace b1 := b1.far (p := ⟨w.heap.size + 1 + 1, 1, none⟩) (by dsimp only; omega) (.slice Az1 nz1 cz1)
    replace r0 := r0.far (p := ⟨w.heap.size + 1 + 1, 1, none⟩) (by dsimp only; omega) (.slice Az1 nz1 cz1)
    replace q0 : Bx 65 ((((W2).setCell ⟨w.heap.size + 1 + 1, 0, none⟩ (.bool (Wd.ngb q)))).setCell ⟨w.heap.size + 1 + 1, 1, none⟩ (.slice Az1 nz1 cz1)) (w.heap.size + 1 + 1) [.bool (Wd.ngb q), .slice Az1 nz1 cz1] := q0.set 1 (.slice Az1 nz1 cz1)
    replace UP := UP.setCell (p := ⟨w.heap.size + 1 + 1, 1, none⟩) (by dsimp only; omega) (.slice Az1 nz1 cz1)
    clear KW
    generalize ((((W2).setCell ⟨w.heap.size + 1 + 1, 0, none⟩ (.bool (Wd.ngb q)))).setCell ⟨w.heap.size + 1 + 1, 1, none⟩ (.slice Az1 nz1 cz1)) = W3 at *
    replace b0_0 := b0.cell (i := 0) rfl
    replace b0_1 := b0.cell (i := 1) rfl
    replace b1_0 := b1.cell (i := 0) rfl
    replace b1_1 := b1.cell (i := 1) rfl
    replace q0_0 := q0.cell (i := 0) rfl
    replace q0_1 := q0.cell (i := 1) rfl
    replace r0_0 := r0.cell (i := 0) rfl
    replace r0_1 := r0.cell (i := 1) rfl
    have Z1 : Wh W3 (.agg #[.bool (Wd.ngb q), .slice Az1 nz1 cz1]) q 400000 := Zw.wh ⟨_, rfl, z1⟩ HQ2
    replace hl := hl.up (Up.refl W3).drew
    replace hm := hm.up (Up.refl W3).drew
    replace H1 := H1.up (Up.refl W3).drew
    replace H2 := H2.up (Up.refl W3).drew
    replace n1 := n1.up (Up.refl W3).drew
    replace n2 := n2.up (Up.refl W3).drew
    replace z1 := z1.up (Up.refl W3).drew
    replace Z1 := Z1.up (Up.refl W3).drew
    replace b0 := b0.up (Up.refl W3).drew
    replace b1 := b1.up (Up.refl W3).drew
    replace q0 := q0.up (Up.refl W3).drew
    replace r0 := r0.up (Up.refl W3).drew
    replace UP := UP.trans (Up.refl W3).drew
    replace b0_0 := b0.cell (i := 0) rfl
    replace b0_1 := b0.cell (i := 1) rfl
    replace b1_0 := b1.cell (i := 0) rfl
    replace b1_1 := b1.cell (i := 1) rfl
    replace q0_0 := q0.cell (i := 0) rfl
    replace q0_1 := q0.cell (i := 1) rfl
    have r0_0 := r0.cell (i := 0) rfl
    have r0_1 := r0.cell (i := 1) rfl
    have r0_f0 := r0.free 0
    have r0_f1 := r0.free 1
    go_region_held3 (fun w' => Up w w' ∧ w'.cell? ⟨w.heap.size, 0, none⟩ = some (.bool s) ∧ w'.cell? ⟨w.heap.size, 1, none⟩ = some (.slice A l.length c) ∧ w'.cell? ⟨w.heap.size + 1, 0, none⟩ = some (.bool t) ∧ w'.cell? ⟨w.heap.size + 1, 1, none⟩ = some (.slice D m.length d) ∧ w'.cell? ⟨w.heap.size + 1 + 1, 0, none⟩ = some (.bool (Wd.ngb q)) ∧ w'.cell? ⟨w.heap.size + 1 + 1, 1, none⟩ = some (.slice Az1 nz1 cz1))
        (first | with_reducible exact ⟨UP, b0_0, b0_1, b1_0, b1_1, q0_0, q0_1⟩ | with_reducible exact ⟨((UP.setCell (p := ⟨w.heap.size + 1 + 1 + 1, 0, none⟩) (by dsimp only; omega) _).setCell (p := ⟨w.heap.size + 1 + 1 + 1, 1, none⟩) (by dsimp only; omega) _), (cell_far_block (cell_far_block b0_0 (by dsimp only; omega)) (by dsimp only; omega)), (cell_far_block (cell_far_block b0_1 (by dsimp only; omega)) (by dsimp only; omega)), (cell_far_block (cell_far_block b1_0 (by dsimp only; omega)) (by dsimp only; omega)), (cell_far_block (cell_far_block b1_1 (by dsimp only; omega)) (by dsimp only; omega)), (cell_far_block (cell_far_block q0_0 (by dsimp only; omega)) (by dsimp only; omega)), (cell_far_block (cell_far_block q0_1 (by dsimp only; omega)) (by dsimp only; omega))⟩ | with_reducible exact ⟨(UP.alloc_drew _), (cell_alloc_drew b0_0), (cell_alloc_drew b0_1), (cell_alloc_drew b1_0), (cell_alloc_drew b1_1), (cell_alloc_drew q0_0), (cell_alloc_drew q0_1)⟩ | with_reducible exact ⟨(UP.alloc2_drew _ _), (cell_alloc2_drew b0_0), (cell_alloc2_drew b0_1), (cell_alloc2_drew b1_0), (cell_alloc2_drew b1_1), (cell_alloc2_drew q0_0), (cell_alloc2_drew q0_1)⟩ | (simp only [← World.setCell_drew]; with_reducible exact ⟨((UP.setCell (p := ⟨w.heap.size + 1 + 1 + 1, 0, none⟩) (by dsimp only; omega) _).setCell (p := ⟨w.heap.size + 1 + 1 + 1, 1, none⟩) (by dsimp only; omega) _), (cell_far_block (cell_far_block b0_0 (by dsimp only; omega)) (by dsimp only; omega)), (cell_far_block (cell_far_block b0_1 (by dsimp only; omega)) (by dsimp only; omega)), (cell_far_block (cell_far_block b1_0 (by dsimp only; omega)) (by dsimp only; omega)), (cell_far_block (cell_far_block b1_1 (by dsimp only; omega)) (by dsimp only; omega)), (cell_far_block (cell_far_block q0_0 (by dsimp only; omega)) (by dsimp only; omega)), (cell_far_block (cell_far_block q0_1 (by dsimp only; omega)) (by dsimp only; omega))⟩) | go_keep)
        ((first
          | (go_at_call 94
             ((with_reducible refine (whole_mul Z1 H2 (by omega) (by omega)).mono ?_))
             rintro e W4 ⟨V4, rfl, p1, u4⟩
             replace hl := hl.up u4
             replace hm := hm.up u4
             replace H1 := H1.up u4
             replace H2 := H2.up u4
             replace n1 := n1.up u4
             replace n2 := n2.up u4
             replace z1 := z1.up u4
             replace Z1 := Z1.up u4
             try (replace p1 := p1.up u4)
             try (replace z2 := z2.up u4)
             replace b0 := b0.up u4
             replace b1 := b1.up u4
             replace q0 := q0.up u4
             replace r0 := r0.up u4
             replace UP := UP.trans u4
             replace b0_0 := b0.cell (i := 0) rfl
             replace b0_1 := b0.cell (i := 1) rfl
             replace b1_0 := b1.cell (i := 0) rfl
             replace b1_1 := b1.cell (i := 1) rfl
             replace q0_0 := q0.cell (i := 0) rfl
             replace q0_1 := q0.cell (i := 1) rfl
             replace r0_0 := r0.cell (i := 0) rfl
             replace r0_1 := r0.cell (i := 1) rfl
             replace r0_f0 := r0.free 0
             replace r0_f1 := r0.free 1
             clear u4)
          | (go_at_call 107
             ((with_reducible refine (whole_sub H1 (p1.wh LQY) (by omega) (by omega)).mono ?_))
             rintro e W5 ⟨V5, rfl, z2, u5⟩
             replace hl := hl.up u5
             replace hm := hm.up u5
             replace H1 := H1.up u5
             replace H2 := H2.up u5
             replace n1 := n1.up u5
             replace n2 := n2.up u5
             replace z1 := z1.up u5
             replace Z1 := Z1.up u5
             try (replace p1 := p1.up u5)
             try (replace z2 := z2.up u5)
             replace b0 := b0.up u5
             replace b1 := b1.up u5
             replace q0 := q0.up u5
             replace r0 := r0.up u5
             replace UP := UP.trans u5
             replace b0_0 := b0.cell (i := 0) rfl
             replace b0_1 := b0.cell (i := 1) rfl
             replace b1_0 := b1.cell (i := 0) rfl
             replace b1_1 := b1.cell (i := 1) rfl
             replace q0_0 := q0.cell (i := 0) rfl
             replace q0_1 := q0.cell (i := 1) rfl
             replace r0_0 := r0.cell (i := 0) rfl
             replace r0_1 := r0.cell (i := 1) rfl
             replace r0_f0 := r0.free 0
             replace r0_f1 := r0.free 1
             clear u5
             rw [HR.out] at z2
             obtain ⟨Xz2, rfl, z2⟩ := z2
             obtain ⟨Az2, nz2, cz2, rfl⟩ := z2.shape)))
    go_wp2_with fail
    clear r0_f0 r0_f1
    have KW : Kw (W5) ((W5).setCell ⟨w.heap.size + 1 + 1 + 1, 0, none⟩ (.bool (Wd.ngb r))) := Kw.store (c := (.bool false)) r0 rfl trivial _
    replace hl := hl.kw KW
    replace hm := hm.kw KW
    replace H1 := H1.kw KW
    replace H2 := H2.kw KW
    replace n1 := n1.kw KW
    replace n2 := n2.kw KW
    replace z1 := z1.kw KW
    replace Z1 := Z1.kw KW
    replace p1 := p1.kw KW
    replace z2 := z2.kw KW
    replace b0 := b0.far (p := ⟨w.heap.size + 1 + 1 + 1, 0, none⟩) (by dsimp only; omega) (.bool (Wd.ngb r))
    replace b1 := b1.far (p := ⟨w.heap.size + 1 + 1 + 1, 0, none⟩) (by dsimp only; omega) (.bool (Wd.ngb r))
    replace q0 := q0.far (p := ⟨w.heap.size + 1 + 1 + 1, 0, none⟩) (by dsimp only; omega) (.bool (Wd.ngb r))
    replace r0 : Bx 65 ((W5).setCell ⟨w.heap.size + 1 + 1 + 1, 0, none⟩ (.bool (Wd.ngb r))) (w.heap.size + 1 + 1 + 1) [.bool (Wd.ngb r), .slice none 0 0] := r0.set 0 (.bool (Wd.ngb r))
    replace UP := UP.setCell (p := ⟨w.heap.size + 1 + 1 + 1, 0, none⟩) (by dsimp only; omega) (.bool (Wd.ngb r))
    have KW : Kw (((W5).setCell ⟨w.heap.size + 1 + 1 + 1, 0, none⟩ (.bool (Wd.ngb r)))) ((((W5).setCell ⟨w.heap.size + 1 + 1 + 1, 0, none⟩ (.bool (Wd.ngb r)))).setCell ⟨w.heap.size + 1 + 1 + 1, 1, none⟩ (.slice Az2 nz2 cz2)) := Kw.store (c := (.slice none 0 0)) r0 rfl trivial _
    replace hl := hl.kw KW
    replace hm := hm.kw KW
    replace H1 := H1.kw KW
    replace H2 := H2.kw KW
    replace n1 := n1.kw KW
    replace n2 := n2.kw KW
    replace z1 := z1.kw KW
    replace Z1 := Z1.kw KW
    replace p1 := p1.kw KW
    replace z2 := z2.kw KW
    replace b0 := b0.far (p := ⟨w.heap.size + 1 + 1 + 1, 1, none⟩) (by dsimp only; omega) (.slice Az2 nz2 cz2)
    replace b1 := b1.far (p := ⟨w.heap.size + 1 + 1 + 1, 1, none⟩) (by dsimp only; omega) (.slice Az2 nz2 cz2)
    replace q0 := q0.far (p := ⟨w.heap.size + 1 + 1 + 1, 1, none⟩) (by dsimp only; omega) (.slice Az2 nz2 cz2)
    replace r0 : Bx 65 ((((W5).setCell ⟨w.heap.size + 1 + 1 + 1, 0, none⟩ (.bool (Wd.ngb r)))).setCell ⟨w.heap.size + 1 + 1 + 1, 1, none⟩ (.slice Az2 nz2 cz2)) (w.heap.size + 1 + 1 + 1) [.bool (Wd.ngb r), .slice Az2 nz2 cz2] := r0.set 1 (.slice Az2 nz2 cz2)
    replace UP := UP.setCell (p := ⟨w.heap.size + 1 + 1 + 1, 1, none⟩) (by dsimp only; omega) (.slice Az2 nz2 cz2)
    clear KW
    generalize ((((W5).setCell ⟨w.heap.size + 1 + 1 + 1, 0, none⟩ (.bool (Wd.ngb r)))).setCell ⟨w.heap.size + 1 + 1 + 1, 1, none⟩ (.slice Az2 nz2 cz2)) = W6 at *
    replace b0_0 := b0.cell (i := 0) rfl
    replace b0_1 := b0.cell (i := 1) rfl
    replace b1_0 := b1.cell (i := 0) rfl
    replace b1_1 := b1.cell (i := 1) rfl
    replace q0_0 := q0.cell (i := 0) rfl
    replace q0_1 := q0.cell (i := 1) rfl
    replace r0_0 := r0.cell (i := 0) rfl
    replace r0_1 := r0.cell (i := 1) rfl
    have Z2 : Wh W6 (.agg #[.bool (Wd.ngb r), .slice Az2 nz2 cz2]) r 900000 := Zw.wh ⟨_, rfl, z2⟩ (LR.mono (by omega))
    replace hl := hl.up (Up.refl W6).drew
    replace hm := hm.up (Up.refl W6).drew
    replace H1 := H1.up (Up.refl W6).drew
    replace H2 := H2.up (Up.refl W6).drew
    replace n1 := n1.up (Up.refl W6).drew
    replace n2 := n2.up (Up.refl W6).drew
    replace z1 := z1.up (Up.refl W6).drew
    replace Z1 := Z1.up (Up.refl W6).drew
    replace p1 := p1.up (Up.refl W6).drew
    replace z2 := z2.up (Up.refl W6).drew
    replace Z2 := Z2.up (Up.refl W6).drew
    replace b0 := b0.up (Up.refl W6).drew
    replace b1 := b1.up (Up.refl W6).drew
    replace q0 := q0.up (Up.refl W6).drew
    replace r0 := r0.up (Up.refl W6).drew
    replace UP := UP.trans (Up.refl W6).drew
    replace b0_0 := b0.cell (i := 0) rfl
    replace b0_1 := b0.cell (i := 1) rfl
    replace b1_0 := b1.cell (i := 0) rfl
    replace b1_1 := b1.cell (i := 1) rfl
    replace q0_0 := q0.cell (i := 0) rfl
    replace q0_1 := q0.cell (i := 1) rfl
    replace r0_0 := r0.cell (i := 0) rfl
    replace r0_1 := r0.cell (i := 1) rfl
    go_region_held3 (fun w' => Up w w' ∧ w'.cell? ⟨w.heap.size, 0, none⟩ = some (.bool s) ∧ w'.cell? ⟨w.heap.size, 1, none⟩ = some (.slice A l.length c) ∧ w'.cell? ⟨w.heap.size + 1, 0, none⟩ = some (.bool t) ∧ w'.cell? ⟨w.heap.size + 1, 1, none⟩ = some (.slice D m.length d) ∧ w'.cell? ⟨w.heap.size + 1 + 1, 0, none⟩ = some (.bool (Wd.ngb q)) ∧ w'.cell? ⟨w.heap.size + 1 + 1, 1, none⟩ = some (.slice Az1 nz1 cz1) ∧ w'.cell? ⟨w.heap.size + 1 + 1 + 1, 0, none⟩ = some (.bool (Wd.ngb r)) ∧ w'.cell? ⟨w.heap.size + 1 + 1 + 1, 1, none⟩ = some (.slice Az2 nz2 cz2))
        (first | with_reducible exact ⟨UP, b0_0, b0_1, b1_0, b1_1, q0_0, q0_1, r0_0, r0_1⟩ | with_reducible exact ⟨UP, b0_0, b0_1, b1_0, b1_1, q0_0, q0_1, r0_0, r0_1⟩ | with_reducible exact ⟨(UP.alloc_drew _), (cell_alloc_drew b0_0), (cell_alloc_drew b0_1), (cell_alloc_drew b1_0), (cell_alloc_drew b1_1), (cell_alloc_drew q0_0), (cell_alloc_drew q0_1), (cell_alloc_drew r0_0), (cell_alloc_drew r0_1)⟩ | with_reducible exact ⟨(UP.alloc2_drew _ _), (cell_alloc2_drew b0_0), (cell_alloc2_drew b0_1), (cell_alloc2_drew b1_0), (cell_alloc2_drew b1_1), (cell_alloc2_drew q0_0), (cell_alloc2_drew q0_1), (cell_alloc2_drew r0_0), (cell_alloc2_drew r0_1)⟩ | (simp only [← World.setCell_drew]; with_reducible exact ⟨UP, b0_0, b0_1, b1_0, b1_1, q0_0, q0_1, r0_0, r0_1⟩) | go_keep)
        ((first
          | (go_at_call 92
             ((with_reducible refine (whole_sign Z2 (by omega)).mono ?_))
             rintro e W7 ⟨rfl, u7⟩
             replace hl := hl.up u7
             replace hm := hm.up u7
             replace H1 := H1.up u7
             replace H2 := H2.up u7
             replace n1 := n1.up u7
             replace n2 := n2.up u7
             replace z1 := z1.up u7
             replace Z1 := Z1.up u7
             replace p1 := p1.up u7
             replace z2 := z2.up u7
             replace Z2 := Z2.up u7
             replace b0 := b0.up u7
             replace b1 := b1.up u7
             replace q0 := q0.up u7
             replace r0 := r0.up u7
             replace UP := UP.trans u7
             replace b0_0 := b0.cell (i := 0) rfl
             replace b0_1 := b0.cell (i := 1) rfl
             replace b1_0 := b1.cell (i := 0) rfl
             replace b1_1 := b1.cell (i := 1) rfl
             replace q0_0 := q0.cell (i := 0) rfl
             replace q0_1 := q0.cell (i := 1) rfl
             replace r0_0 := r0.cell (i := 0) rfl
             replace r0_1 := r0.cell (i := 1) rfl
             clear u7
             rw [HS.out])
          | (go_at_call 92
             ((with_reducible refine (whole_sign H2 (by omega)).mono ?_))
             rintro e W8 ⟨rfl, u8⟩
             replace hl := hl.up u8
             replace hm := hm.up u8
             replace H1 := H1.up u8
             replace H2 := H2.up u8
             replace n1 := n1.up u8
             replace n2 := n2.up u8
             replace z1 := z1.up u8
             replace Z1 := Z1.up u8
             replace p1 := p1.up u8
             replace z2 := z2.up u8
             replace Z2 := Z2.up u8
             replace b0 := b0.up u8
             replace b1 := b1.up u8
             replace q0 := q0.up u8
             replace r0 := r0.up u8
             replace UP := UP.trans u8
             replace b0_0 := b0.cell (i := 0) rfl
             replace b0_1 := b0.cell (i := 1) rfl
             replace b1_0 := b1.cell (i := 0) rfl
             replace b1_1 := b1.cell (i := 1) rfl
             replace q0_0 := q0.cell (i := 0) rfl
             replace q0_1 := q0.cell (i := 1) rfl
             replace r0_0 := r0.cell (i := 0) rfl
             replace r0_1 := r0.cell (i := 1) rfl
             clear u8
             rw [HY.out])))
    go_wp2_with fail
    replace hl := hl.up (Up.refl W8).drew
    replace hm := hm.up (Up.refl W8).drew
    replace H1 := H1.up (Up.refl W8).drew
    replace H2 := H2.up (Up.refl W8).drew
    replace n1 := n1.up (Up.refl W8).drew
    replace n2 := n2.up (Up.refl W8).drew
    replace z1 := z1.up (Up.refl W8).drew
    replace Z1 := Z1.up (Up.refl W8).drew
    replace p1 := p1.up (Up.refl W8).drew
    replace z2 := z2.up (Up.refl W8).drew
    replace Z2 := Z2.up (Up.refl W8).drew
    replace b0 := b0.up (Up.refl W8).drew
    replace b1 := b1.up (Up.refl W8).drew
    replace q0 := q0.up (Up.refl W8).drew
    replace r0 := r0.up (Up.refl W8).drew
    replace UP := UP.trans (Up.refl W8).drew
    replace b0_0 := b0.cell (i := 0) rfl
    replace b0_1 := b0.cell (i := 1) rfl
    replace b1_0 := b1.cell (i := 0) rfl
    replace b1_1 := b1.cell (i := 1) rfl
    have q0_0 := q0.cell (i := 0) rfl
    have q0_1 := q0.cell (i := 1) rfl
    have q0_f0 := q0.free 0
    have q0_f1 := q0.free 1
    replace r0_0 := r0.cell (i := 0) rfl
    replace r0_1 := r0.cell (i := 1) rfl
    go_region_with ((first
          | (go_at_call 103
             ((with_reducible refine (whole_of (by omega) _).mono ?_))
             rintro e W9 ⟨V9, rfl, o1, u9⟩
             replace hl := hl.up u9
             replace hm := hm.up u9
             replace H1 := H1.up u9
             replace H2 := H2.up u9
             replace n1 := n1.up u9
             replace n2 := n2.up u9
             replace z1 := z1.up u9
             replace Z1 := Z1.up u9
             replace p1 := p1.up u9
             replace z2 := z2.up u9
             replace Z2 := Z2.up u9
             try (replace o1 := o1.up u9)
             try (replace z3 := z3.up u9)
             replace b0 := b0.up u9
             replace b1 := b1.up u9
             replace q0 := q0.up u9
             replace r0 := r0.up u9
             replace UP := UP.trans u9
             replace b0_0 := b0.cell (i := 0) rfl
             replace b0_1 := b0.cell (i := 1) rfl
             replace b1_0 := b1.cell (i := 0) rfl
             replace b1_1 := b1.cell (i := 1) rfl
             replace q0_0 := q0.cell (i := 0) rfl
             replace q0_1 := q0.cell (i := 1) rfl
             replace q0_f0 := q0.free 0
             replace q0_f1 := q0.free 1
             replace r0_0 := r0.cell (i := 0) rfl
             replace r0_1 := r0.cell (i := 1) rfl
             clear u9)
          | (go_at_call 107
             ((with_reducible refine (whole_sub Z1 (o1.wh (k := 1) lz_one) (by omega) (by omega)).mono ?_))
             rintro e W10 ⟨V10, rfl, z3, u10⟩
             replace hl := hl.up u10
             replace hm := hm.up u10
             replace H1 := H1.up u10
             replace H2 := H2.up u10
             replace n1 := n1.up u10
             replace n2 := n2.up u10
             replace z1 := z1.up u10
             replace Z1 := Z1.up u10
             replace p1 := p1.up u10
             replace z2 := z2.up u10
             replace Z2 := Z2.up u10
             try (replace o1 := o1.up u10)
             try (replace z3 := z3.up u10)
             replace b0 := b0.up u10
             replace b1 := b1.up u10
             replace q0 := q0.up u10
             replace r0 := r0.up u10
             replace UP := UP.trans u10
             replace b0_0 := b0.cell (i := 0) rfl
             replace b0_1 := b0.cell (i := 1) rfl
             replace b1_0 := b1.cell (i := 0) rfl
             replace b1_1 := b1.cell (i := 1) rfl
             replace q0_0 := q0.cell (i := 0) rfl
             replace q0_1 := q0.cell (i := 1) rfl
             replace q0_f0 := q0.free 0
             replace q0_f1 := q0.free 1
             replace r0_0 := r0.cell (i := 0) rfl
             replace r0_1 := r0.cell (i := 1) rfl
             clear u10
             obtain ⟨Xz3, rfl, z3⟩ := z3
             obtain ⟨Az3, nz3, cz3, rfl⟩ := z3.shape)))
    all_goals
      go_wp2_with fail
      clear q0_f0 q0_f1
      have KW : Kw (W10) ((W10).setCell ⟨w.heap.size + 1 + 1, 0, none⟩ (.bool (Wd.ngb (q - 1)))) := Kw.store (c := (.bool (Wd.ngb q))) q0 rfl trivial _
      replace hl := hl.kw KW
      replace hm := hm.kw KW
      replace H1 := H1.kw KW
      replace H2 := H2.kw KW
      replace n1 := n1.kw KW
      replace n2 := n2.kw KW
      replace z1 := z1.kw KW
      replace Z1 := Z1.kw KW
      replace p1 := p1.kw KW
      replace z2 := z2.kw KW
      replace Z2 := Z2.kw KW
      replace o1 := o1.kw KW
      replace z3 := z3.kw KW
      replace b0 := b0.far (p := ⟨w.heap.size + 1 + 1, 0, none⟩) (by dsimp only; omega) (.bool (Wd.ngb (q - 1)))
      replace b1 := b1.far (p := ⟨w.heap.size + 1 + 1, 0, none⟩) (by dsimp only; omega) (.bool (Wd.ngb (q - 1)))
      replace r0 := r0.far (p := ⟨w.heap.size + 1 + 1, 0, none⟩) (by dsimp only; omega) (.bool (Wd.ngb (q - 1)))
      replace q0 : Bx 65 ((W10).setCell ⟨w.heap.size + 1 + 1, 0, none⟩ (.bool (Wd.ngb (q - 1)))) (w.heap.size + 1 + 1) [.bool (Wd.ngb (q - 1)), .slice Az1 nz1 cz1] := q0.set 0 (.bool (Wd.ngb (q - 1)))
      replace UP := UP.setCell (p := ⟨w.heap.size + 1 + 1, 0, none⟩) (by dsimp only; omega) (.bool (Wd.ngb (q - 1)))
      have KW : Kw (((W10).setCell ⟨w.heap.size + 1 + 1, 0, none⟩ (.bool (Wd.ngb (q - 1))))) ((((W10).setCell ⟨w.heap.size + 1 + 1, 0, none⟩ (.bool (Wd.ngb (q - 1))))).setCell ⟨w.heap.size + 1 + 1, 1, none⟩ (.slice Az3 nz3 cz3)) := Kw.store (c := (.slice Az1 nz1 cz1)) q0 rfl trivial _
      replace hl := hl.kw KW
      replace hm := hm.kw KW
      replace H1 := H1.kw KW
      replace H2 := H2.kw KW
      replace n1 := n1.kw KW
      replace n2 := n2.kw KW
      replace z1 := z1.kw KW
      replace Z1 := Z1.kw KW
      replace p1 := p1.kw KW
      replace z2 := z2.kw KW
      replace Z2 := Z2.kw KW
      replace o1 := o1.kw KW
      replace z3 := z3.kw KW
      replace b0 := b0.far (p := ⟨w.heap.size + 1 + 1, 1, none⟩) (by dsimp only; omega) (.slice Az3 nz3 cz3)
      replace b1 := b1.far (p := ⟨w.heap.size + 1 + 1, 1, none⟩) (by dsimp only; omega) (.slice Az3 nz3 cz3)
      replace r0 := r0.far (p := ⟨w.heap.size + 1 + 1, 1, none⟩) (by dsimp only; omega) (.slice Az3 nz3 cz3)
      replace q0 : Bx 65 ((((W10).setCell ⟨w.heap.size + 1 + 1, 0, none⟩ (.bool (Wd.ngb (q - 1))))).setCell ⟨w.heap.size + 1 + 1, 1, none⟩ (.slice Az3 nz3 cz3)) (w.heap.size + 1 + 1) [.bool (Wd.ngb (q - 1)), .slice Az3 nz3 cz3] := q0.set 1 (.slice Az3 nz3 cz3)
      replace UP := UP.setCell (p := ⟨w.heap.size + 1 + 1, 1, none⟩) (by dsimp only; omega) (.slice Az3 nz3 cz3)
      clear KW
      generalize ((((W10).setCell ⟨w.heap.size + 1 + 1, 0, none⟩ (.bool (Wd.ngb (q - 1))))).setCell ⟨w.heap.size + 1 + 1, 1, none⟩ (.slice Az3 nz3 cz3)) = W11 at *
      replace b0_0 := b0.cell (i := 0) rfl
      replace b0_1 := b0.cell (i := 1) rfl
      replace b1_0 := b1.cell (i := 0) rfl
      replace b1_1 := b1.cell (i := 1) rfl
      replace q0_0 := q0.cell (i := 0) rfl
      replace q0_1 := q0.cell (i := 1) rfl
      replace r0_0 := r0.cell (i := 0) rfl
      replace r0_1 := r0.cell (i := 1) rfl
      go_wp2_with fail
      ((with_reducible refine (whole_add Z2 H2 (by omega) (by omega)).mono ?_))
      rintro e W12 ⟨V12, rfl, z4, u12⟩
      replace hl := hl.up u12
      replace hm := hm.up u12
      replace H1 := H1.up u12
      replace H2 := H2.up u12
      replace n1 := n1.up u12
      replace n2 := n2.up u12
      replace z1 := z1.up u12
      replace Z1 := Z1.up u12
      replace p1 := p1.up u12
      replace z2 := z2.up u12
      replace Z2 := Z2.up u12
      replace o1 := o1.up u12
      replace z3 := z3.up u12
      replace b0 := b0.up u12
      replace b1 := b1.up u12
      replace q0 := q0.up u12
      replace r0 := r0.up u12
      replace UP := UP.trans u12
      replace b0_0 := b0.cell (i := 0) rfl
      replace b0_1 := b0.cell (i := 1) rfl
      replace b1_0 := b1.cell (i := 0) rfl
      replace b1_1 := b1.cell (i := 1) rfl
      replace q0_0 := q0.cell (i := 0) rfl
      replace q0_1 := q0.cell (i := 1) rfl
      replace r0_0 := r0.cell (i := 0) rfl
      replace r0_1 := r0.cell (i := 1) rfl
      clear u12
      obtain ⟨Xz4, rfl, z4⟩ := z4
      obtain ⟨Az4, nz4, cz4, rfl⟩ := z4.shape
      have g2 := r0.free 0
      have g3 := r0.free 1
      go_wp2_with fail
      clear g2 g3
      have KW : Kw (W12) ((W12).setCell ⟨w.heap.size + 1 + 1 + 1, 0, none⟩ (.bool (Wd.ngb (r + y)))) := Kw.store (c := (.bool (Wd.ngb r))) r0 rfl trivial _
      replace hl := hl.kw KW
      replace hm := hm.kw KW
      replace H1 := H1.kw KW
      replace H2 := H2.kw KW
      replace n1 := n1.kw KW
      replace n2 := n2.kw KW
      replace z1 := z1.kw KW
      replace Z1 := Z1.kw KW
      replace p1 := p1.kw KW
      replace z2 := z2.kw KW
      replace Z2 := Z2.kw KW
      replace o1 := o1.kw KW
      replace z3 := z3.kw KW
      replace z4 := z4.kw KW
      replace b0 := b0.far (p := ⟨w.heap.size + 1 + 1 + 1, 0, none⟩) (by dsimp only; omega) (.bool (Wd.ngb (r + y)))
      replace b1 := b1.far (p := ⟨w.heap.size + 1 + 1 + 1, 0, none⟩) (by dsimp only; omega) (.bool (Wd.ngb (r + y)))
      replace q0 := q0.far (p := ⟨w.heap.size + 1 + 1 + 1, 0, none⟩) (by dsimp only; omega) (.bool (Wd.ngb (r + y)))
      replace r0 : Bx 65 ((W12).setCell ⟨w.heap.size + 1 + 1 + 1, 0, none⟩ (.bool (Wd.ngb (r + y)))) (w.heap.size + 1 + 1 + 1) [.bool (Wd.ngb (r + y)), .slice Az2 nz2 cz2] := r0.set 0 (.bool (Wd.ngb (r + y)))
      replace UP := UP.setCell (p := ⟨w.heap.size + 1 + 1 + 1, 0, none⟩) (by dsimp only; omega) (.bool (Wd.ngb (r + y)))
      have KW : Kw (((W12).setCell ⟨w.heap.size + 1 + 1 + 1, 0, none⟩ (.bool (Wd.ngb (r + y))))) ((((W12).setCell ⟨w.heap.size + 1 + 1 + 1, 0, none⟩ (.bool (Wd.ngb (r + y))))).setCell ⟨w.heap.size + 1 + 1 + 1, 1, none⟩ (.slice Az4 nz4 cz4)) := Kw.store (c := (.slice Az2 nz2 cz2)) r0 rfl trivial _
      replace hl := hl.kw KW
      replace hm := hm.kw KW
      replace H1 := H1.kw KW
      replace H2 := H2.kw KW
      replace n1 := n1.kw KW
      replace n2 := n2.kw KW
      replace z1 := z1.kw KW
      replace Z1 := Z1.kw KW
      replace p1 := p1.kw KW
      replace z2 := z2.kw KW
      replace Z2 := Z2.kw KW
      replace o1 := o1.kw KW
      replace z3 := z3.kw KW
      replace z4 := z4.kw KW
      replace b0 := b0.far (p := ⟨w.heap.size + 1 + 1 + 1, 1, none⟩) (by dsimp only; omega) (.slice Az4 nz4 cz4)
      replace b1 := b1.far (p := ⟨w.heap.size + 1 + 1 + 1, 1, none⟩) (by dsimp only; omega) (.slice Az4 nz4 cz4)
      replace q0 := q0.far (p := ⟨w.heap.size + 1 + 1 + 1, 1, none⟩) (by dsimp only; omega) (.slice Az4 nz4 cz4)
      replace r0 : Bx 65 ((((W12).setCell ⟨w.heap.size + 1 + 1 + 1, 0, none⟩ (.bool (Wd.ngb (r + y))))).setCell ⟨w.heap.size + 1 + 1 + 1, 1, none⟩ (.slice Az4 nz4 cz4)) (w.heap.size + 1 + 1 + 1) [.bool (Wd.ngb (r + y)), .slice Az4 nz4 cz4] := r0.set 1 (.slice Az4 nz4 cz4)
      replace UP := UP.setCell (p := ⟨w.heap.size + 1 + 1 + 1, 1, none⟩) (by dsimp only; omega) (.slice Az4 nz4 cz4)
      clear KW
      generalize ((((W12).setCell ⟨w.heap.size + 1 + 1 + 1, 0, none⟩ (.bool (Wd.ngb (r + y))))).setCell ⟨w.heap.size + 1 + 1 + 1, 1, none⟩ (.slice Az4 nz4 cz4)) = W13 at *
      replace b0_0 := b0.cell (i := 0) rfl
      replace b0_1 := b0.cell (i := 1) rfl
      replace b1_0 := b1.cell (i := 0) rfl
      replace b1_1 := b1.cell (i := 1) rfl
      replace q0_0 := q0.cell (i := 0) rfl
      replace q0_1 := q0.cell (i := 1) rfl
      replace r0_0 := r0.cell (i := 0) rfl
      replace r0_1 := r0.cell (i := 1) rfl
      have g0 := q0.free 0
      have g1 := q0.free 1
      have g2 := r0.free 0
      have g3 := r0.free 1
      go_region
      clear g0 g1 g2 g3
      have KW : Kw (W13) ((W13).setCell ⟨w.heap.size + 1 + 1, 0, none⟩ (.bool (Wd.ngb (q - 1)))) := Kw.store (c := (.bool (Wd.ngb (q - 1)))) q0 rfl trivial _
      replace hl := hl.kw KW
      replace hm := hm.kw KW
      replace H1 := H1.kw KW
      replace H2 := H2.kw KW
      replace n1 := n1.kw KW
      replace n2 := n2.kw KW
      replace z1 := z1.kw KW
      replace Z1 := Z1.kw KW
      replace p1 := p1.kw KW
      replace z2 := z2.kw KW
      replace Z2 := Z2.kw KW
      replace o1 := o1.kw KW
      replace z3 := z3.kw KW
      replace z4 := z4.kw KW
      replace b0 := b0.far (p := ⟨w.heap.size + 1 + 1, 0, none⟩) (by dsimp only; omega) (.bool (Wd.ngb (q - 1)))
      replace b1 := b1.far (p := ⟨w.heap.size + 1 + 1, 0, none⟩) (by dsimp only; omega) (.bool (Wd.ngb (q - 1)))
      replace r0 := r0.far (p := ⟨w.heap.size + 1 + 1, 0, none⟩) (by dsimp only; omega) (.bool (Wd.ngb (q - 1)))
      replace q0 : Bx 65 ((W13).setCell ⟨w.heap.size + 1 + 1, 0, none⟩ (.bool (Wd.ngb (q - 1)))) (w.heap.size + 1 + 1) [.bool (Wd.ngb (q - 1)), .slice Az3 nz3 cz3] := q0.set 0 (.bool (Wd.ngb (q - 1)))
      replace UP := UP.setCell (p := ⟨w.heap.size + 1 + 1, 0, none⟩) (by dsimp only; omega) (.bool (Wd.ngb (q - 1)))
      have KW : Kw (((W13).setCell ⟨w.heap.size + 1 + 1, 0, none⟩ (.bool (Wd.ngb (q - 1))))) ((((W13).setCell ⟨w.heap.size + 1 + 1, 0, none⟩ (.bool (Wd.ngb (q - 1))))).setCell ⟨w.heap.size + 1 + 1, 1, none⟩ (.slice Az3 nz3 cz3)) := Kw.store (c := (.slice Az3 nz3 cz3)) q0 rfl trivial _
      replace hl := hl.kw KW
      replace hm := hm.kw KW
      replace H1 := H1.kw KW
      replace H2 := H2.kw KW
      replace n1 := n1.kw KW
      replace n2 := n2.kw KW
      replace z1 := z1.kw KW
      replace Z1 := Z1.kw KW
      replace p1 := p1.kw KW
      replace z2 := z2.kw KW
      replace Z2 := Z2.kw KW
      replace o1 := o1.kw KW
      replace z3 := z3.kw KW
      replace z4 := z4.kw KW
      replace b0 := b0.far (p := ⟨w.heap.size + 1 + 1, 1, none⟩) (by dsimp only; omega) (.slice Az3 nz3 cz3)
      replace b1 := b1.far (p := ⟨w.heap.size + 1 + 1, 1, none⟩) (by dsimp only; omega) (.slice Az3 nz3 cz3)
      replace r0 := r0.far (p := ⟨w.heap.size + 1 + 1, 1, none⟩) (by dsimp only; omega) (.slice Az3 nz3 cz3)
      replace q0 : Bx 65 ((((W13).setCell ⟨w.heap.size + 1 + 1, 0, none⟩ (.bool (Wd.ngb (q - 1))))).setCell ⟨w.heap.size + 1 + 1, 1, none⟩ (.slice Az3 nz3 cz3)) (w.heap.size + 1 + 1) [.bool (Wd.ngb (q - 1)), .slice Az3 nz3 cz3] := q0.set 1 (.slice Az3 nz3 cz3)
      replace UP := UP.setCell (p := ⟨w.heap.size + 1 + 1, 1, none⟩) (by dsimp only; omega) (.slice Az3 nz3 cz3)
      clear KW
      generalize ((((W13).setCell ⟨w.heap.size + 1 + 1, 0, none⟩ (.bool (Wd.ngb (q - 1))))).setCell ⟨w.heap.size + 1 + 1, 1, none⟩ (.slice Az3 nz3 cz3)) = W14 at *
      replace b0_0 := b0.cell (i := 0) rfl
      replace b0_1 := b0.cell (i := 1) rfl
      replace b1_0 := b1.cell (i := 0) rfl
      replace b1_1 := b1.cell (i := 1) rfl
      replace q0_0 := q0.cell (i := 0) rfl
      replace q0_1 := q0.cell (i := 1) rfl
      replace r0_0 := r0.cell (i := 0) rfl
      replace r0_1 := r0.cell (i := 1) rfl
      have KW : Kw (W14) ((W14).setCell ⟨w.heap.size + 1 + 1 + 1, 0, none⟩ (.bool (Wd.ngb (r + y)))) := Kw.store (c := (.bool (Wd.ngb (r + y)))) r0 rfl trivial _
      replace hl := hl.kw KW
      replace hm := hm.kw KW
      replace H1 := H1.kw KW
      replace H2 := H2.kw KW
      replace n1 := n1.kw KW
      replace n2 := n2.kw KW
      replace z1 := z1.kw KW
      replace Z1 := Z1.kw KW
      replace p1 := p1.kw KW
      replace z2 := z2.kw KW
      replace Z2 := Z2.kw KW
      replace o1 := o1.kw KW
      replace z3 := z3.kw KW
      replace z4 := z4.kw KW
      replace b0 := b0.far (p := ⟨w.heap.size + 1 + 1 + 1, 0, none⟩) (by dsimp only; omega) (.bool (Wd.ngb (r + y)))
      replace b1 := b1.far (p := ⟨w.heap.size + 1 + 1 + 1, 0, none⟩) (by dsimp only; omega) (.bool (Wd.ngb (r + y)))
      replace q0 := q0.far (p := ⟨w.heap.size + 1 + 1 + 1, 0, none⟩) (by dsimp only; omega) (.bool (Wd.ngb (r + y)))
      replace r0 : Bx 65 ((W14).setCell ⟨w.heap.size + 1 + 1 + 1, 0, none⟩ (.bool (Wd.ngb (r + y)))) (w.heap.size + 1 + 1 + 1) [.bool (Wd.ngb (r + y)), .slice Az4 nz4 cz4] := r0.set 0 (.bool (Wd.ngb (r + y)))
      replace UP := UP.setCell (p := ⟨w.heap.size + 1 + 1 + 1, 0, none⟩) (by dsimp only; omega) (.bool (Wd.ngb (r + y)))
      have KW : Kw (((W14).setCell ⟨w.heap.size + 1 + 1 + 1, 0, none⟩ (.bool (Wd.ngb (r + y))))) ((((W14).setCell ⟨w.heap.size + 1 + 1 + 1, 0, none⟩ (.bool (Wd.ngb (r + y))))).setCell ⟨w.heap.size + 1 + 1 + 1, 1, none⟩ (.slice Az4 nz4 cz4)) := Kw.store (c := (.slice Az4 nz4 cz4)) r0 rfl trivial _
      replace hl := hl.kw KW
      replace hm := hm.kw KW
      replace H1 := H1.kw KW
      replace H2 := H2.kw KW
      replace n1 := n1.kw KW
      replace n2 := n2.kw KW
      replace z1 := z1.kw KW
      replace Z1 := Z1.kw KW
      replace p1 := p1.kw KW
      replace z2 := z2.kw KW
      replace Z2 := Z2.kw KW
      replace o1 := o1.kw KW
      replace z3 := z3.kw KW
      replace z4 := z4.kw KW
      replace b0 := b0.far (p := ⟨w.heap.size + 1 + 1 + 1, 1, none⟩) (by dsimp only; omega) (.slice Az4 nz4 cz4)
      replace b1 := b1.far (p := ⟨w.heap.size + 1 + 1 + 1, 1, none⟩) (by dsimp only; omega) (.slice Az4 nz4 cz4)
      replace q0 := q0.far (p := ⟨w.heap.size + 1 + 1 + 1, 1, none⟩) (by dsimp only; omega) (.slice Az4 nz4 cz4)
      replace r0 : Bx 65 ((((W14).setCell ⟨w.heap.size + 1 + 1 + 1, 0, none⟩ (.bool (Wd.ngb (r + y))))).setCell ⟨w.heap.size + 1 + 1 + 1, 1, none⟩ (.slice Az4 nz4 cz4)) (w.heap.size + 1 + 1 + 1) [.bool (Wd.ngb (r + y)), .slice Az4 nz4 cz4] := r0.set 1 (.slice Az4 nz4 cz4)
      replace UP := UP.setCell (p := ⟨w.heap.size + 1 + 1 + 1, 1, none⟩) (by dsimp only; omega) (.slice Az4 nz4 cz4)
      clear KW
      generalize ((((W14).setCell ⟨w.heap.size + 1 + 1 + 1, 0, none⟩ (.bool (Wd.ngb (r + y))))).setCell ⟨w.heap.size + 1 + 1 + 1, 1, none⟩ (.slice Az4 nz4 cz4)) = W15 at *
      replace b0_0 := b0.cell (i := 0) rfl
      replace b0_1 := b0.cell (i := 1) rfl
      replace b1_0 := b1.cell (i := 0) rfl
      replace b1_1 := b1.cell (i := 1) rfl
      replace q0_0 := q0.cell (i := 0) rfl
      replace q0_1 := q0.cell (i := 1) rfl
      replace r0_0 := r0.cell (i := 0) rfl
      replace r0_1 := r0.cell (i := 1) rfl
      replace hl := hl.up (Up.refl W15).drew
      replace hm := hm.up (Up.refl W15).drew
      replace H1 := H1.up (Up.refl W15).drew
      replace H2 := H2.up (Up.refl W15).drew
      replace n1 := n1.up (Up.refl W15).drew
      replace n2 := n2.up (Up.refl W15).drew
      replace z1 := z1.up (Up.refl W15).drew
      replace Z1 := Z1.up (Up.refl W15).drew
      replace p1 := p1.up (Up.refl W15).drew
      replace z2 := z2.up (Up.refl W15).drew
      replace Z2 := Z2.up (Up.refl W15).drew
      replace o1 := o1.up (Up.refl W15).drew
      replace z3 := z3.up (Up.refl W15).drew
      replace z4 := z4.up (Up.refl W15).drew
      replace b0 := b0.up (Up.refl W15).drew
      replace b1 := b1.up (Up.refl W15).drew
      replace q0 := q0.up (Up.refl W15).drew
      replace r0 := r0.up (Up.refl W15).drew
      replace UP := UP.trans (Up.refl W15).drew
      replace b0_0 := b0.cell (i := 0) rfl
      replace b0_1 := b0.cell (i := 1) rfl
      replace b1_0 := b1.cell (i := 0) rfl
      replace b1_1 := b1.cell (i := 1) rfl
      replace q0_0 := q0.cell (i := 0) rfl
      replace q0_1 := q0.cell (i := 1) rfl
      replace r0_0 := r0.cell (i := 0) rfl
      replace r0_1 := r0.cell (i := 1) rfl
      generalize W15.drew = W16 at *
      go_wp2
      exact bodyPost_ret (run_res_cell2_tmp rfl rfl rfl agg_whole size_whole agg_whole size_whole q0 rfl r0 rfl) rfl ⟨_, _, (r + y), rfl, by rw [← HE.out]; exact ⟨_, rfl, z3⟩, ⟨_, rfl, z4⟩, UP⟩
  · have HE := Lib.hid he
    clear he
    rcases Int.lt_or_eq_of_le hpos with h0 | h0
    · have HS : Hid (Wd.sgn r = 1) := Lib.hid (Wd.sgn_pos h0)
      clear h0 hpos
      have UP : Up w ((((w.alloc (.cells #[.bool s, .slice A l.length c] 65)).alloc (.cells #[.bool t, .slice D m.length d] 65)).alloc (.cells #[.bool false, .slice none 0 0] 65)).alloc (.cells #[.bool false, .slice none 0 0] 65)) := ((((Up.refl w).alloc _).alloc _).alloc _).alloc _
      obtain ⟨b0, b1, q0, r0⟩ := bx_four 65 65 65 65 w [.bool s, .slice A l.length c] [.bool t, .slice D m.length d] [.bool false, .slice none 0 0] [.bool false, .slice none 0 0]
      go_enter Try.func109, Try.ntmps109
      go_wp2_with fail
      generalize ((((w.alloc (.cells #[.bool s, .slice A l.length c] 65)).alloc (.cells #[.bool t, .slice D m.length d] 65)).alloc (.cells #[.bool false, .slice none 0 0] 65)).alloc (.cells #[.bool false, .slice none 0 0] 65)) = W at *
      replace hl := hl.up UP
      replace hm := hm.up UP
      replace H1 := H1.up UP
      replace H2 := H2.up UP
      have b0_0 := b0.cell (i := 0) rfl
      have b0_1 := b0.cell (i := 1) rfl
      have b1_0 := b1.cell (i := 0) rfl
      have b1_1 := b1.cell (i := 1) rfl
      have q0_0 := q0.cell (i := 0) rfl
      have q0_1 := q0.cell (i := 1) rfl
      have r0_0 := r0.cell (i := 0) rfl
      have r0_1 := r0.cell (i := 1) rfl
      go_wp2_with fail
      ((with_reducible refine (quot_div hl hm (by omega) (by omega) HM.out).mono ?_))
      rintro e W1 ⟨V1, V1', rfl, n1, n2, u1⟩
      replace hl := hl.up u1
      replace hm := hm.up u1
      replace H1 := H1.up u1
      replace H2 := H2.up u1
      replace b0 := b0.up u1
      replace b1 := b1.up u1
      replace q0 := q0.up u1
      replace r0 := r0.up u1
      replace UP := UP.trans u1
      replace b0_0 := b0.cell (i := 0) rfl
      replace b0_1 := b0.cell (i := 1) rfl
      replace b1_0 := b1.cell (i := 0) rfl
      replace b1_1 := b1.cell (i := 1) rfl
      replace q0_0 := q0.cell (i := 0) rfl
      replace q0_1 := q0.cell (i := 1) rfl
      replace r0_0 := r0.cell (i := 0) rfl
      replace r0_1 := r0.cell (i := 1) rfl
      clear u1
      go_wp2_with fail
      ((with_reducible refine (whole_signed n1 (by omega)).mono ?_))
      rintro e W2 ⟨V2, rfl, z1, u2⟩
      replace hl := hl.up u2
      replace hm := hm.up u2
      replace H1 := H1.up u2
      replace H2 := H2.up u2
      replace n1 := n1.up u2
      replace n2 := n2.up u2
      replace b0 := b0.up u2
      replace b1 := b1.up u2
      replace q0 := q0.up u2
      replace r0 := r0.up u2
      replace UP := UP.trans u2
      replace b0_0 := b0.cell (i := 0) rfl
      replace b0_1 := b0.cell (i := 1) rfl
      replace b1_0 := b1.cell (i := 0) rfl
      replace b1_1 := b1.cell (i := 1) rfl
      replace q0_0 := q0.cell (i := 0) rfl
      replace q0_1 := q0.cell (i := 1) rfl
      replace r0_0 := r0.cell (i := 0) rfl
      replace r0_1 := r0.cell (i := 1) rfl
      clear u2
      rw [show Wd.iv (!s == t) (Wd.val l / Wd.val m) = q from HQ.out] at z1
      obtain ⟨Xz1, rfl, z1⟩ := z1
      obtain ⟨Az1, nz1, cz1, rfl⟩ := z1.shape
      have qf0 := q0.free 0
      have qf1 := q0.free 1
      go_wp2_with fail
      clear qf0 qf1
      have KW : Kw (W2) ((W2).setCell ⟨w.heap.size + 1 + 1, 0, none⟩ (.bool (Wd.ngb q))) := Kw.store (c := (.bool false)) q0 rfl trivial _
      replace hl := hl.kw KW
      replace hm := hm.kw KW
      replace H1 := H1.kw KW
      replace H2 := H2.kw KW
      replace n1 := n1.kw KW
      replace n2 := n2.kw KW
      replace z1 := z1.kw KW
      replace b0 := b0.far (p := ⟨w.heap.size + 1 + 1, 0, none⟩) (by dsimp only; omega) (.bool (Wd.ngb q))
      replace b1 := b1.far (p := ⟨w.heap.size + 1 + 1, 0, none⟩) (by dsimp only; omega) (.bool (Wd.ngb q))
      replace r0 := r0.far (p := ⟨w.heap.size + 1 + 1, 0, none⟩) (by dsimp only; omega) (.bool (Wd.ngb q))
      replace q0 : Bx 65 ((W2).setCell ⟨w.heap.size + 1 + 1, 0, none⟩ (.bool (Wd.ngb q))) (w.heap.size + 1 + 1) [.bool (Wd.ngb q), .slice none 0 0] := q0.set 0 (.bool (Wd.ngb q))
      replace UP := UP.setCell (p := ⟨w.heap.size + 1 + 1, 0, none⟩) (by dsimp only; omega) (.bool (Wd.ngb q))
      have KW : Kw (((W2).setCell ⟨w.heap.size + 1 + 1, 0, none⟩ (.bool (Wd.ngb q)))) ((((W2).setCell ⟨w.heap.size + 1 + 1, 0, none⟩ (.bool (Wd.ngb q)))).setCell ⟨w.heap.size + 1 + 1, 1, none⟩ (.slice Az1 nz1 cz1)) := Kw.store (c := (.slice none 0 0)) q0 rfl trivial _
      replace hl := hl.kw KW
      replace hm := hm.kw KW
      replace H1 := H1.kw KW
      replace H2 := H2.kw KW
      replace n1 := n1.kw KW
      replace n2 := n2.kw KW
      replace z1 := z1.kw KW
      replace b0 := b0.far (p := ⟨w.heap.size + 1 + 1, 1, none⟩) (by dsimp only; omega) (.slice Az1 nz1 cz1)
      replace b1 := b1.far (p := ⟨w.heap.size + 1 + 1, 1, none⟩) (by dsimp only; omega) (.slice Az1 nz1 cz1)
      replace r0 := r0.far (p := ⟨w.heap.size + 1 + 1, 1, none⟩) (by dsimp only; omega) (.slice Az1 nz1 cz1)
      replace q0 : Bx 65 ((((W2).setCell ⟨w.heap.size + 1 + 1, 0, none⟩ (.bool (Wd.ngb q)))).setCell ⟨w.heap.size + 1 + 1, 1, none⟩ (.slice Az1 nz1 cz1)) (w.heap.size + 1 + 1) [.bool (Wd.ngb q), .slice Az1 nz1 cz1] := q0.set 1 (.slice Az1 nz1 cz1)
      replace UP := UP.setCell (p := ⟨w.heap.size + 1 + 1, 1, none⟩) (by dsimp only; omega) (.slice Az1 nz1 cz1)
      clear KW
      generalize ((((W2).setCell ⟨w.heap.size + 1 + 1, 0, none⟩ (.bool (Wd.ngb q)))).setCell ⟨w.heap.size + 1 + 1, 1, none⟩ (.slice Az1 nz1 cz1)) = W3 at *
      replace b0_0 := b0.cell (i := 0) rfl
      replace b0_1 := b0.cell (i := 1) rfl
      replace b1_0 := b1.cell (i := 0) rfl
      replace b1_1 := b1.cell (i := 1) rfl
      replace q0_0 := q0.cell (i := 0) rfl
      replace q0_1 := q0.cell (i := 1) rfl
      replace r0_0 := r0.cell (i := 0) rfl
      replace r0_1 := r0.cell (i := 1) rfl
      have Z1 : Wh W3 (.agg #[.bool (Wd.ngb q), .slice Az1 nz1 cz1]) q 400000 := Zw.wh ⟨_, rfl, z1⟩ HQ2
      replace hl := hl.up (Up.refl W3).drew
      replace hm := hm.up (Up.refl W3).drew
      replace H1 := H1.up (Up.refl W3).drew
      replace H2 := H2.up (Up.refl W3).drew
      replace n1 := n1.up (Up.refl W3).drew
      replace n2 := n2.up (Up.refl W3).drew
      replace z1 := z1.up (Up.refl W3).drew
      replace Z1 := Z1.up (Up.refl W3).drew
      replace b0 := b0.up (Up.refl W3).drew
      replace b1 := b1.up (Up.refl W3).drew
      replace q0 := q0.up (Up.refl W3).drew
      replace r0 := r0.up (Up.refl W3).drew
      replace UP := UP.trans (Up.refl W3).drew
      replace b0_0 := b0.cell (i := 0) rfl
      replace b0_1 := b0.cell (i := 1) rfl
      replace b1_0 := b1.cell (i := 0) rfl
      replace b1_1 := b1.cell (i := 1) rfl
      replace q0_0 := q0.cell (i := 0) rfl
      replace q0_1 := q0.cell (i := 1) rfl
      have r0_0 := r0.cell (i := 0) rfl
      have r0_1 := r0.cell (i := 1) rfl
      have r0_f0 := r0.free 0
      have r0_f1 := r0.free 1
      go_region_held3 (fun w' => Up w w' ∧ w'.cell? ⟨w.heap.size, 0, none⟩ = some (.bool s) ∧ w'.cell? ⟨w.heap.size, 1, none⟩ = some (.slice A l.length c) ∧ w'.cell? ⟨w.heap.size + 1, 0, none⟩ = some (.bool t) ∧ w'.cell? ⟨w.heap.size + 1, 1, none⟩ = some (.slice D m.length d) ∧ w'.cell? ⟨w.heap.size + 1 + 1, 0, none⟩ = some (.bool (Wd.ngb q)) ∧ w'.cell? ⟨w.heap.size + 1 + 1, 1, none⟩ = some (.slice Az1 nz1 cz1))
          (first | with_reducible exact ⟨UP, b0_0, b0_1, b1_0, b1_1, q0_0, q0_1⟩ | with_reducible exact ⟨((UP.setCell (p := ⟨w.heap.size + 1 + 1 + 1, 0, none⟩) (by dsimp only; omega) _).setCell (p := ⟨w.heap.size + 1 + 1 + 1, 1, none⟩) (by dsimp only; omega) _), (cell_far_block (cell_far_block b0_0 (by dsimp only; omega)) (by dsimp only; omega)), (cell_far_block (cell_far_block b0_1 (by dsimp only; omega)) (by dsimp only; omega)), (cell_far_block (cell_far_block b1_0 (by dsimp only; omega)) (by dsimp only; omega)), (cell_far_block (cell_far_block b1_1 (by dsimp only; omega)) (by dsimp only; omega)), (cell_far_block (cell_far_block q0_0 (by dsimp only; omega)) (by dsimp only; omega)), (cell_far_block (cell_far_block q0_1 (by dsimp only; omega)) (by dsimp only; omega))⟩ | with_reducible exact ⟨(UP.alloc_drew _), (cell_alloc_drew b0_0), (cell_alloc_drew b0_1), (cell_alloc_drew b1_0), (cell_alloc_drew b1_1), (cell_alloc_drew q0_0), (cell_alloc_drew q0_1)⟩ | with_reducible exact ⟨(UP.alloc2_drew _ _), (cell_alloc2_drew b0_0), (cell_alloc2_drew b0_1), (cell_alloc2_drew b1_0), (cell_alloc2_drew b1_1), (cell_alloc2_drew q0_0), (cell_alloc2_drew q0_1)⟩ | (simp only [← World.setCell_drew]; with_reducible exact ⟨((UP.setCell (p := ⟨w.heap.size + 1 + 1 + 1, 0, none⟩) (by dsimp only; omega) _).setCell (p := ⟨w.heap.size + 1 + 1 + 1, 1, none⟩) (by dsimp only; omega) _), (cell_far_block (cell_far_block b0_0 (by dsimp only; omega)) (by dsimp only; omega)), (cell_far_block (cell_far_block b0_1 (by dsimp only; omega)) (by dsimp only; omega)), (cell_far_block (cell_far_block b1_0 (by dsimp only; omega)) (by dsimp only; omega)), (cell_far_block (cell_far_block b1_1 (by dsimp only; omega)) (by dsimp only; omega)), (cell_far_block (cell_far_block q0_0 (by dsimp only; omega)) (by dsimp only; omega)), (cell_far_block (cell_far_block q0_1 (by dsimp only; omega)) (by dsimp only; omega))⟩) | go_keep)
          ((first
            | (go_at_call 94
               ((with_reducible refine (whole_mul Z1 H2 (by omega) (by omega)).mono ?_))
               rintro e W4 ⟨V4, rfl, p1, u4⟩
               replace hl := hl.up u4
               replace hm := hm.up u4
               replace H1 := H1.up u4
               replace H2 := H2.up u4
               replace n1 := n1.up u4
               replace n2 := n2.up u4
               replace z1 := z1.up u4
               replace Z1 := Z1.up u4
               try (replace p1 := p1.up u4)
               try (replace z2 := z2.up u4)
               replace b0 := b0.up u4
               replace b1 := b1.up u4
               replace q0 := q0.up u4
               replace r0 := r0.up u4
               replace UP := UP.trans u4
               replace b0_0 := b0.cell (i := 0) rfl
               replace b0_1 := b0.cell (i := 1) rfl
               replace b1_0 := b1.cell (i := 0) rfl
               replace b1_1 := b1.cell (i := 1) rfl
               replace q0_0 := q0.cell (i := 0) rfl
               replace q0_1 := q0.cell (i := 1) rfl
               replace r0_0 := r0.cell (i := 0) rfl
               replace r0_1 := r0.cell (i := 1) rfl
               replace r0_f0 := r0.free 0
               replace r0_f1 := r0.free 1
               clear u4)
            | (go_at_call 107
               ((with_reducible refine (whole_sub H1 (p1.wh LQY) (by omega) (by omega)).mono ?_))
               rintro e W5 ⟨V5, rfl, z2, u5⟩
               replace hl := hl.up u5
               replace hm := hm.up u5
               replace H1 := H1.up u5
               replace H2 := H2.up u5
               replace n1 := n1.up u5
               replace n2 := n2.up u5
               replace z1 := z1.up u5
               replace Z1 := Z1.up u5
               try (replace p1 := p1.up u5)
               try (replace z2 := z2.up u5)
               replace b0 := b0.up u5
               replace b1 := b1.up u5
               replace q0 := q0.up u5
               replace r0 := r0.up u5
               replace UP := UP.trans u5
               replace b0_0 := b0.cell (i := 0) rfl
               replace b0_1 := b0.cell (i := 1) rfl
               replace b1_0 := b1.cell (i := 0) rfl
               replace b1_1 := b1.cell (i := 1) rfl
               replace q0_0 := q0.cell (i := 0) rfl
               replace q0_1 := q0.cell (i := 1) rfl
               replace r0_0 := r0.cell (i := 0) rfl
               replace r0_1 := r0.cell (i := 1) rfl
               replace r0_f0 := r0.free 0
               replace r0_f1 := r0.free 1
               clear u5
               rw [HR.out] at z2
               obtain ⟨Xz2, rfl, z2⟩ := z2
               obtain ⟨Az2, nz2, cz2, rfl⟩ := z2.shape)))
      go_wp2_with fail
      clear r0_f0 r0_f1
      have KW : Kw (W5) ((W5).setCell ⟨w.heap.size + 1 + 1 + 1, 0, none⟩ (.bool (Wd.ngb r))) := Kw.store (c := (.bool false)) r0 rfl trivial _
      replace hl := hl.kw KW
      replace hm := hm.kw KW
      replace H1 := H1.kw KW
      replace H2 := H2.kw KW
      replace n1 := n1.kw KW
      replace n2 := n2.kw KW
      replace z1 := z1.kw KW
      replace Z1 := Z1.kw KW
      replace p1 := p1.kw KW
      replace z2 := z2.kw KW
      replace b0 := b0.far (p := ⟨w.heap.size + 1 + 1 + 1, 0, none⟩) (by dsimp only; omega) (.bool (Wd.ngb r))
      replace b1 := b1.far (p := ⟨w.heap.size + 1 + 1 + 1, 0, none⟩) (by dsimp only; omega) (.bool (Wd.ngb r))
      replace q0 := q0.far (p := ⟨w.heap.size + 1 + 1 + 1, 0, none⟩) (by dsimp only; omega) (.bool (Wd.ngb r))
      replace r0 : Bx 65 ((W5).setCell ⟨w.heap.size + 1 + 1 + 1, 0, none⟩ (.bool (Wd.ngb r))) (w.heap.size + 1 + 1 + 1) [.bool (Wd.ngb r), .slice none 0 0] := r0.set 0 (.bool (Wd.ngb r))
      replace UP := UP.setCell (p := ⟨w.heap.size + 1 + 1 + 1, 0, none⟩) (by dsimp only; omega) (.bool (Wd.ngb r))
      have KW : Kw (((W5).setCell ⟨w.heap.size + 1 + 1 + 1, 0, none⟩ (.bool (Wd.ngb r)))) ((((W5).setCell ⟨w.heap.size + 1 + 1 + 1, 0, none⟩ (.bool (Wd.ngb r)))).setCell ⟨w.heap.size + 1 + 1 + 1, 1, none⟩ (.slice Az2 nz2 cz2)) := Kw.store (c := (.slice none 0 0)) r0 rfl trivial _
      replace hl := hl.kw KW
      replace hm := hm.kw KW
      replace H1 := H1.kw KW
      replace H2 := H2.kw KW
      replace n1 := n1.kw KW
      replace n2 := n2.kw KW
      replace z1 := z1.kw KW
      replace Z1 := Z1.kw KW
      replace p1 := p1.kw KW
      replace z2 := z2.kw KW
      replace b0 := b0.far (p := ⟨w.heap.size + 1 + 1 + 1, 1, none⟩) (by dsimp only; omega) (.slice Az2 nz2 cz2)
      replace b1 := b1.far (p := ⟨w.heap.size + 1 + 1 + 1, 1, none⟩) (by dsimp only; omega) (.slice Az2 nz2 cz2)
      replace q0 := q0.far (p := ⟨w.heap.size + 1 + 1 + 1, 1, none⟩) (by dsimp only; omega) (.slice Az2 nz2 cz2)
      replace r0 : Bx 65 ((((W5).setCell ⟨w.heap.size + 1 + 1 + 1, 0, none⟩ (.bool (Wd.ngb r)))).setCell ⟨w.heap.size + 1 + 1 + 1, 1, none⟩ (.slice Az2 nz2 cz2)) (w.heap.size + 1 + 1 + 1) [.bool (Wd.ngb r), .slice Az2 nz2 cz2] := r0.set 1 (.slice Az2 nz2 cz2)
      replace UP := UP.setCell (p := ⟨w.heap.size + 1 + 1 + 1, 1, none⟩) (by dsimp only; omega) (.slice Az2 nz2 cz2)
      clear KW
      generalize ((((W5).setCell ⟨w.heap.size + 1 + 1 + 1, 0, none⟩ (.bool (Wd.ngb r)))).setCell ⟨w.heap.size + 1 + 1 + 1, 1, none⟩ (.slice Az2 nz2 cz2)) = W6 at *
      replace b0_0 := b0.cell (i := 0) rfl
      replace b0_1 := b0.cell (i := 1) rfl
      replace b1_0 := b1.cell (i := 0) rfl
      replace b1_1 := b1.cell (i := 1) rfl
      replace q0_0 := q0.cell (i := 0) rfl
      replace q0_1 := q0.cell (i := 1) rfl
      replace r0_0 := r0.cell (i := 0) rfl
      replace r0_1 := r0.cell (i := 1) rfl
      have Z2 : Wh W6 (.agg #[.bool (Wd.ngb r), .slice Az2 nz2 cz2]) r 900000 := Zw.wh ⟨_, rfl, z2⟩ (LR.mono (by omega))
      replace hl := hl.up (Up.refl W6).drew
      replace hm := hm.up (Up.refl W6).drew
      replace H1 := H1.up (Up.refl W6).drew
      replace H2 := H2.up (Up.refl W6).drew
      replace n1 := n1.up (Up.refl W6).drew
      replace n2 := n2.up (Up.refl W6).drew
      replace z1 := z1.up (Up.refl W6).drew
      replace Z1 := Z1.up (Up.refl W6).drew
      replace p1 := p1.up (Up.refl W6).drew
      replace z2 := z2.up (Up.refl W6).drew
      replace Z2 := Z2.up (Up.refl W6).drew
      replace b0 := b0.up (Up.refl W6).drew
      replace b1 := b1.up (Up.refl W6).drew
      replace q0 := q0.up (Up.refl W6).drew
      replace r0 := r0.up (Up.refl W6).drew
      replace UP := UP.trans (Up.refl W6).drew
      replace b0_0 := b0.cell (i := 0) rfl
      replace b0_1 := b0.cell (i := 1) rfl
      replace b1_0 := b1.cell (i := 0) rfl
      replace b1_1 := b1.cell (i := 1) rfl
      replace q0_0 := q0.cell (i := 0) rfl
      replace q0_1 := q0.cell (i := 1) rfl
      replace r0_0 := r0.cell (i := 0) rfl
      replace r0_1 := r0.cell (i := 1) rfl
      go_region_held3 (fun w' => Up w w' ∧ w'.cell? ⟨w.heap.size, 0, none⟩ = some (.bool s) ∧ w'.cell? ⟨w.heap.size, 1, none⟩ = some (.slice A l.length c) ∧ w'.cell? ⟨w.heap.size + 1, 0, none⟩ = some (.bool t) ∧ w'.cell? ⟨w.heap.size + 1, 1, none⟩ = some (.slice D m.length d) ∧ w'.cell? ⟨w.heap.size + 1 + 1, 0, none⟩ = some (.bool (Wd.ngb q)) ∧ w'.cell? ⟨w.heap.size + 1 + 1, 1, none⟩ = some (.slice Az1 nz1 cz1) ∧ w'.cell? ⟨w.heap.size + 1 + 1 + 1, 0, none⟩ = some (.bool (Wd.ngb r)) ∧ w'.cell? ⟨w.heap.size + 1 + 1 + 1, 1, none⟩ = some (.slice Az2 nz2 cz2))
          (first | with_reducible exact ⟨UP, b0_0, b0_1, b1_0, b1_1, q0_0, q0_1, r0_0, r0_1⟩ | with_reducible exact ⟨UP, b0_0, b0_1, b1_0, b1_1, q0_0, q0_1, r0_0, r0_1⟩ | with_reducible exact ⟨(UP.alloc_drew _), (cell_alloc_drew b0_0), (cell_alloc_drew b0_1), (cell_alloc_drew b1_0), (cell_alloc_drew b1_1), (cell_alloc_drew q0_0), (cell_alloc_drew q0_1), (cell_alloc_drew r0_0), (cell_alloc_drew r0_1)⟩ | with_reducible exact ⟨(UP.alloc2_drew _ _), (cell_alloc2_drew b0_0), (cell_alloc2_drew b0_1), (cell_alloc2_drew b1_0), (cell_alloc2_drew b1_1), (cell_alloc2_drew q0_0), (cell_alloc2_drew q0_1), (cell_alloc2_drew r0_0), (cell_alloc2_drew r0_1)⟩ | (simp only [← World.setCell_drew]; with_reducible exact ⟨UP, b0_0, b0_1, b1_0, b1_1, q0_0, q0_1, r0_0, r0_1⟩) | go_keep)
          ((first
            | (go_at_call 92
               ((with_reducible refine (whole_sign Z2 (by omega)).mono ?_))
               rintro e W7 ⟨rfl, u7⟩
               replace hl := hl.up u7
               replace hm := hm.up u7
               replace H1 := H1.up u7
               replace H2 := H2.up u7
               replace n1 := n1.up u7
               replace n2 := n2.up u7
               replace z1 := z1.up u7
               replace Z1 := Z1.up u7
               replace p1 := p1.up u7
               replace z2 := z2.up u7
               replace Z2 := Z2.up u7
               replace b0 := b0.up u7
               replace b1 := b1.up u7
               replace q0 := q0.up u7
               replace r0 := r0.up u7
               replace UP := UP.trans u7
               replace b0_0 := b0.cell (i := 0) rfl
               replace b0_1 := b0.cell (i := 1) rfl
               replace b1_0 := b1.cell (i := 0) rfl
               replace b1_1 := b1.cell (i := 1) rfl
               replace q0_0 := q0.cell (i := 0) rfl
               replace q0_1 := q0.cell (i := 1) rfl
               replace r0_0 := r0.cell (i := 0) rfl
               replace r0_1 := r0.cell (i := 1) rfl
               clear u7
               rw [HS.out])
            | (go_at_call 92
               ((with_reducible refine (whole_sign H2 (by omega)).mono ?_))
               rintro e W8 ⟨rfl, u8⟩
               replace hl := hl.up u8
               replace hm := hm.up u8
               replace H1 := H1.up u8
               replace H2 := H2.up u8
               replace n1 := n1.up u8
               replace n2 := n2.up u8
               replace z1 := z1.up u8
               replace Z1 := Z1.up u8
               replace p1 := p1.up u8
               replace z2 := z2.up u8
               replace Z2 := Z2.up u8
               replace b0 := b0.up u8
               replace b1 := b1.up u8
               replace q0 := q0.up u8
               replace r0 := r0.up u8
               replace UP := UP.trans u8
               replace b0_0 := b0.cell (i := 0) rfl
               replace b0_1 := b0.cell (i := 1) rfl
               replace b1_0 := b1.cell (i := 0) rfl
               replace b1_1 := b1.cell (i := 1) rfl
               replace q0_0 := q0.cell (i := 0) rfl
               replace q0_1 := q0.cell (i := 1) rfl
               replace r0_0 := r0.cell (i := 0) rfl
               replace r0_1 := r0.cell (i := 1) rfl
               clear u8
               rw [HY.out])))
      go_wp2_with fail
      have g0 := q0.free 0
      have g1 := q0.free 1
      have g2 := r0.free 0
      have g3 := r0.free 1
      go_region
      clear g0 g1 g2 g3
      have KW : Kw (W8) ((W8).setCell ⟨w.heap.size + 1 + 1, 0, none⟩ (.bool (Wd.ngb q))) := Kw.store (c := (.bool (Wd.ngb q))) q0 rfl trivial _
      replace hl := hl.kw KW
      replace hm := hm.kw KW
      replace H1 := H1.kw KW
      replace H2 := H2.kw KW
      replace n1 := n1.kw KW
      replace n2 := n2.kw KW
      replace z1 := z1.kw KW
      replace Z1 := Z1.kw KW
      replace p1 := p1.kw KW
      replace z2 := z2.kw KW
      replace Z2 := Z2.kw KW
      replace b0 := b0.far (p := ⟨w.heap.size + 1 + 1, 0, none⟩) (by dsimp only; omega) (.bool (Wd.ngb q))
      replace b1 := b1.far (p := ⟨w.heap.size + 1 + 1, 0, none⟩) (by dsimp only; omega) (.bool (Wd.ngb q))
      replace r0 := r0.far (p := ⟨w.heap.size + 1 + 1, 0, none⟩) (by dsimp only; omega) (.bool (Wd.ngb q))
      replace q0 : Bx 65 ((W8).setCell ⟨w.heap.size + 1 + 1, 0, none⟩ (.bool (Wd.ngb q))) (w.heap.size + 1 + 1) [.bool (Wd.ngb q), .slice Az1 nz1 cz1] := q0.set 0 (.bool (Wd.ngb q))
      replace UP := UP.setCell (p := ⟨w.heap.size + 1 + 1, 0, none⟩) (by dsimp only; omega) (.bool (Wd.ngb q))
      have KW : Kw (((W8).setCell ⟨w.heap.size + 1 + 1, 0, none⟩ (.bool (Wd.ngb q)))) ((((W8).setCell ⟨w.heap.size + 1 + 1, 0, none⟩ (.bool (Wd.ngb q)))).setCell ⟨w.heap.size + 1 + 1, 1, none⟩ (.slice Az1 nz1 cz1)) := Kw.store (c := (.slice Az1 nz1 cz1)) q0 rfl trivial _
      replace hl := hl.kw KW
      replace hm := hm.kw KW
      replace H1 := H1.kw KW
      replace H2 := H2.kw KW
      replace n1 := n1.kw KW
      replace n2 := n2.kw KW
      replace z1 := z1.kw KW
      replace Z1 := Z1.kw KW
      replace p1 := p1.kw KW
      replace z2 := z2.kw KW
      replace Z2 := Z2.kw KW
      replace b0 := b0.far (p := ⟨w.heap.size + 1 + 1, 1, none⟩) (by dsimp only; omega) (.slice Az1 nz1 cz1)
      replace b1 := b1.far (p := ⟨w.heap.size + 1 + 1, 1, none⟩) (by dsimp only; omega) (.slice Az1 nz1 cz1)
      replace r0 := r0.far (p := ⟨w.heap.size + 1 + 1, 1, none⟩) (by dsimp only; omega) (.slice Az1 nz1 cz1)
      replace q0 : Bx 65 ((((W8).setCell ⟨w.heap.size + 1 + 1, 0, none⟩ (.bool (Wd.ngb q)))).setCell ⟨w.heap.size + 1 + 1, 1, none⟩ (.slice Az1 nz1 cz1)) (w.heap.size + 1 + 1) [.bool (Wd.ngb q), .slice Az1 nz1 cz1] := q0.set 1 (.slice Az1 nz1 cz1)
      replace UP := UP.setCell (p := ⟨w.heap.size + 1 + 1, 1, none⟩) (by dsimp only; omega) (.slice Az1 nz1 cz1)
      clear KW
      generalize ((((W8).setCell ⟨w.heap.size + 1 + 1, 0, none⟩ (.bool (Wd.ngb q)))).setCell ⟨w.heap.size + 1 + 1, 1, none⟩ (.slice Az1 nz1 cz1)) = W9 at *
      replace b0_0 := b0.cell (i := 0) rfl
      replace b0_1 := b0.cell (i := 1) rfl
      replace b1_0 := b1.cell (i := 0) rfl
      replace b1_1 := b1.cell (i := 1) rfl
      replace q0_0 := q0.cell (i := 0) rfl
      replace q0_1 := q0.cell (i := 1) rfl
      replace r0_0 := r0.cell (i := 0) rfl
      replace r0_1 := r0.cell (i := 1) rfl
      have KW : Kw (W9) ((W9).setCell ⟨w.heap.size + 1 + 1 + 1, 0, none⟩ (.bool (Wd.ngb r))) := Kw.store (c := (.bool (Wd.ngb r))) r0 rfl trivial _
      replace hl := hl.kw KW
      replace hm := hm.kw KW
      replace H1 := H1.kw KW
      replace H2 := H2.kw KW
      replace n1 := n1.kw KW
      replace n2 := n2.kw KW
      replace z1 := z1.kw KW
      replace Z1 := Z1.kw KW
      replace p1 := p1.kw KW
      replace z2 := z2.kw KW
      replace Z2 := Z2.kw KW
      replace b0 := b0.far (p := ⟨w.heap.size + 1 + 1 + 1, 0, none⟩) (by dsimp only; omega) (.bool (Wd.ngb r))
      replace b1 := b1.far (p := ⟨w.heap.size + 1 + 1 + 1, 0, none⟩) (by dsimp only; omega) (.bool (Wd.ngb r))
      replace q0 := q0.far (p := ⟨w.heap.size + 1 + 1 + 1, 0, none⟩) (by dsimp only; omega) (.bool (Wd.ngb r))
      replace r0 : Bx 65 ((W9).setCell ⟨w.heap.size + 1 + 1 + 1, 0, none⟩ (.bool (Wd.ngb r))) (w.heap.size + 1 + 1 + 1) [.bool (Wd.ngb r), .slice Az2 nz2 cz2] := r0.set 0 (.bool (Wd.ngb r))
      replace UP := UP.setCell (p := ⟨w.heap.size + 1 + 1 + 1, 0, none⟩) (by dsimp only; omega) (.bool (Wd.ngb r))
      have KW : Kw (((W9).setCell ⟨w.heap.size + 1 + 1 + 1, 0, none⟩ (.bool (Wd.ngb r)))) ((((W9).setCell ⟨w.heap.size + 1 + 1 + 1, 0, none⟩ (.bool (Wd.ngb r)))).setCell ⟨w.heap.size + 1 + 1 + 1, 1, none⟩ (.slice Az2 nz2 cz2)) := Kw.store (c := (.slice Az2 nz2 cz2)) r0 rfl trivial _
      replace hl := hl.kw KW
      replace hm := hm.kw KW
      replace H1 := H1.kw KW
      replace H2 := H2.kw KW
      replace n1 := n1.kw KW
      replace n2 := n2.kw KW
      replace z1 := z1.kw KW
      replace Z1 := Z1.kw KW
      replace p1 := p1.kw KW
      replace z2 := z2.kw KW
      replace Z2 := Z2.kw KW
      replace b0 := b0.far (p := ⟨w.heap.size + 1 + 1 + 1, 1, none⟩) (by dsimp only; omega) (.slice Az2 nz2 cz2)
      replace b1 := b1.far (p := ⟨w.heap.size + 1 + 1 + 1, 1, none⟩) (by dsimp only; omega) (.slice Az2 nz2 cz2)
      replace q0 := q0.far (p := ⟨w.heap.size + 1 + 1 + 1, 1, none⟩) (by dsimp only; omega) (.slice Az2 nz2 cz2)
      replace r0 : Bx 65 ((((W9).setCell ⟨w.heap.size + 1 + 1 + 1, 0, none⟩ (.bool (Wd.ngb r)))).setCell ⟨w.heap.size + 1 + 1 + 1, 1, none⟩ (.slice Az2 nz2 cz2)) (w.heap.size + 1 + 1 + 1) [.bool (Wd.ngb r), .slice Az2 nz2 cz2] := r0.set 1 (.slice Az2 nz2 cz2)
      replace UP := UP.setCell (p := ⟨w.heap.size + 1 + 1 + 1, 1, none⟩) (by dsimp only; omega) (.slice Az2 nz2 cz2)
      clear KW
      generalize ((((W9).setCell ⟨w.heap.size + 1 + 1 + 1, 0, none⟩ (.bool (Wd.ngb r)))).setCell ⟨w.heap.size + 1 + 1 + 1, 1, none⟩ (.slice Az2 nz2 cz2)) = W10 at *
      replace b0_0 := b0.cell (i := 0) rfl
      replace b0_1 := b0.cell (i := 1) rfl
      replace b1_0 := b1.cell (i := 0) rfl
      replace b1_1 := b1.cell (i := 1) rfl
      replace q0_0 := q0.cell (i := 0) rfl
      replace q0_1 := q0.cell (i := 1) rfl
      replace r0_0 := r0.cell (i := 0) rfl
      replace r0_1 := r0.cell (i := 1) rfl
      replace hl := hl.up (Up.refl W10).drew
      replace hm := hm.up (Up.refl W10).drew
      replace H1 := H1.up (Up.refl W10).drew
      replace H2 := H2.up (Up.refl W10).drew
      replace n1 := n1.up (Up.refl W10).drew
      replace n2 := n2.up (Up.refl W10).drew
      replace z1 := z1.up (Up.refl W10).drew
      replace Z1 := Z1.up (Up.refl W10).drew
      replace p1 := p1.up (Up.refl W10).drew
      replace z2 := z2.up (Up.refl W10).drew
      replace Z2 := Z2.up (Up.refl W10).drew
      replace b0 := b0.up (Up.refl W10).drew
      replace b1 := b1.up (Up.refl W10).drew
      replace q0 := q0.up (Up.refl W10).drew
      replace r0 := r0.up (Up.refl W10).drew
      replace UP := UP.trans (Up.refl W10).drew
      replace b0_0 := b0.cell (i := 0) rfl
      replace b0_1 := b0.cell (i := 1) rfl
      replace b1_0 := b1.cell (i := 0) rfl
      replace b1_1 := b1.cell (i := 1) rfl
      replace q0_0 := q0.cell (i := 0) rfl
      replace q0_1 := q0.cell (i := 1) rfl
      replace r0_0 := r0.cell (i := 0) rfl
      replace r0_1 := r0.cell (i := 1) rfl
      generalize W10.drew = W11 at *
      go_wp2
      exact bodyPost_ret (run_res_cell2_tmp rfl rfl rfl agg_whole size_whole agg_whole size_whole q0 rfl r0 rfl) rfl ⟨_, _, r, rfl, by rw [← HE.out]; exact ⟨_, rfl, z1⟩, ⟨_, rfl, z2⟩, UP⟩
    · have HS : Hid (Wd.sgn r = 0) := Lib.hid (by rw [← h0]; rfl)
      clear h0 hpos
      have UP : Up w ((((w.alloc (.cells #[.bool s, .slice A l.length c] 65)).alloc (.cells #[.bool t, .slice D m.length d] 65)).alloc (.cells #[.bool false, .slice none 0 0] 65)).alloc (.cells #[.bool false, .slice none 0 0] 65)) := ((((Up.refl w).alloc _).alloc _).alloc _).alloc _
      obtain ⟨b0, b1, q0, r0⟩ := bx_four 65 65 65 65 w [.bool s, .slice A l.length c] [.bool t, .slice D m.length d] [.bool false, .slice none 0 0] [.bool false, .slice none 0 0]
      go_enter Try.func109, Try.ntmps109
      go_wp2_with fail
      generalize ((((w.alloc (.cells #[.bool s, .slice A l.length c] 65)).alloc (.cells #[.bool t, .slice D m.length d] 65)).alloc (.cells #[.bool false, .slice none 0 0] 65)).alloc (.cells #[.bool false, .slice none 0 0] 65)) = W at *
      replace hl := hl.up UP
      replace hm := hm.up UP
      replace H1 := H1.up UP
      replace H2 := H2.up UP
      have b0_0 := b0.cell (i := 0) rfl
      have b0_1 := b0.cell (i := 1) rfl
      have b1_0 := b1.cell (i := 0) rfl
      have b1_1 := b1.cell (i := 1) rfl
      have q0_0 := q0.cell (i := 0) rfl
      have q0_1 := q0.cell (i := 1) rfl
      have r0_0 := r0.cell (i := 0) rfl
      have r0_1 := r0.cell (i := 1) rfl
      go_wp2_with fail
      ((with_reducible refine (quot_div hl hm (by omega) (by omega) HM.out).mono ?_))
      rintro e W1 ⟨V1, V1', rfl, n1, n2, u1⟩
      replace hl := hl.up u1
      replace hm := hm.up u1
      replace H1 := H1.up u1
      replace H2 := H2.up u1
      replace b0 := b0.up u1
      replace b1 := b1.up u1
      replace q0 := q0.up u1
      replace r0 := r0.up u1
      replace UP := UP.trans u1
      replace b0_0 := b0.cell (i := 0) rfl
      replace b0_1 := b0.cell (i := 1) rfl
      replace b1_0 := b1.cell (i := 0) rfl
      replace b1_1 := b1.cell (i := 1) rfl
      replace q0_0 := q0.cell (i := 0) rfl
      replace q0_1 := q0.cell (i := 1) rfl
      replace r0_0 := r0.cell (i := 0) rfl
      replace r0_1 := r0.cell (i := 1) rfl
      clear u1
      go_wp2_with fail
      ((with_reducible refine (whole_signed n1 (by omega)).mono ?_))
      rintro e W2 ⟨V2, rfl, z1, u2⟩
      replace hl := hl.up u2
      replace hm := hm.up u2
      replace H1 := H1.up u2
      replace H2 := H2.up u2
      replace n1 := n1.up u2
      replace n2 := n2.up u2
      replace b0 := b0.up u2
      replace b1 := b1.up u2
      replace q0 := q0.up u2
      replace r0 := r0.up u2
      replace UP := UP.trans u2
      replace b0_0 := b0.cell (i := 0) rfl
      replace b0_1 := b0.cell (i := 1) rfl
      replace b1_0 := b1.cell (i := 0) rfl
      replace b1_1 := b1.cell (i := 1) rfl
      replace q0_0 := q0.cell (i := 0) rfl
      replace q0_1 := q0.cell (i := 1) rfl
      replace r0_0 := r0.cell (i := 0) rfl
      replace r0_1 := r0.cell (i := 1) rfl
      clear u2
      rw [show Wd.iv (!s == t) (Wd.val l / Wd.val m) = q from HQ.out] at z1
      obtain ⟨Xz1, rfl, z1⟩ := z1
      obtain ⟨Az1, nz1, cz1, rfl⟩ := z1.shape
      have qf0 := q0.free 0
      have qf1 := q0.free 1
      go_wp2_with fail
      clear qf0 qf1
      have KW : Kw (W2) ((W2).setCell ⟨w.heap.size + 1 + 1, 0, none⟩ (.bool (Wd.ngb q))) := Kw.store (c := (.bool false)) q0 rfl trivial _
      replace hl := hl.kw KW
      replace hm := hm.kw KW
      replace H1 := H1.kw KW
      replace H2 := H2.kw KW
      replace n1 := n1.kw KW
      replace n2 := n2.kw KW
      replace z1 := z1.kw KW
      replace b0 := b0.far (p := ⟨w.heap.size + 1 + 1, 0, none⟩) (by dsimp only; omega) (.bool (Wd.ngb q))
      replace b1 := b1.far (p := ⟨w.heap.size + 1 + 1, 0, none⟩) (by dsimp only; omega) (.bool (Wd.ngb q))
      replace r0 := r0.far (p := ⟨w.heap.size + 1 + 1, 0, none⟩) (by dsimp only; omega) (.bool (Wd.ngb q))
      replace q0 : Bx 65 ((W2).setCell ⟨w.heap.size + 1 + 1, 0, none⟩ (.bool (Wd.ngb q))) (w.heap.size + 1 + 1) [.bool (Wd.ngb q), .slice none 0 0] := q0.set 0 (.bool (Wd.ngb q))
      replace UP := UP.setCell (p := ⟨w.heap.size + 1 + 1, 0, none⟩) (by dsimp only; omega) (.bool (Wd.ngb q))
      have KW : Kw (((W2).setCell ⟨w.heap.size + 1 + 1, 0, none⟩ (.bool (Wd.ngb q)))) ((((W2).setCell ⟨w.heap.size + 1 + 1, 0, none⟩ (.bool (Wd.ngb q)))).setCell ⟨w.heap.size + 1 + 1, 1, none⟩ (.slice Az1 nz1 cz1)) := Kw.store (c := (.slice none 0 0)) q0 rfl trivial _
      replace hl := hl.kw KW
      replace hm := hm.kw KW
      replace H1 := H1.kw KW
      replace H2 := H2.kw KW
      replace n1 := n1.kw KW
      replace n2 := n2.kw KW
      replace z1 := z1.kw KW
      replace b0 := b0.far (p := ⟨w.heap.size + 1 + 1, 1, none⟩) (by dsimp only; omega) (.slice Az1 nz1 cz1)
      replace b1 := b1.far (p := ⟨w.heap.size + 1 + 1, 1, none⟩) (by dsimp only; omega) (.slice Az1 nz1 cz1)
      replace r0 := r0.far (p := ⟨w.heap.size + 1 + 1, 1, none⟩) (by dsimp only; omega) (.slice Az1 nz1 cz1)
      replace q0 : Bx 65 ((((W2).setCell ⟨w.heap.size + 1 + 1, 0, none⟩ (.bool (Wd.ngb q)))).setCell ⟨w.heap.size + 1 + 1, 1, none⟩ (.slice Az1 nz1 cz1)) (w.heap.size + 1 + 1) [.bool (Wd.ngb q), .slice Az1 nz1 cz1] := q0.set 1 (.slice Az1 nz1 cz1)
      replace UP := UP.setCell (p := ⟨w.heap.size + 1 + 1, 1, none⟩) (by dsimp only; omega) (.slice Az1 nz1 cz1)
      clear KW
      generalize ((((W2).setCell ⟨w.heap.size + 1 + 1, 0, none⟩ (.bool (Wd.ngb q)))).setCell ⟨w.heap.size + 1 + 1, 1, none⟩ (.slice Az1 nz1 cz1)) = W3 at *
      replace b0_0 := b0.cell (i := 0) rfl
      replace b0_1 := b0.cell (i := 1) rfl
      replace b1_0 := b1.cell (i := 0) rfl
      replace b1_1 := b1.cell (i := 1) rfl
      replace q0_0 := q0.cell (i := 0) rfl
      replace q0_1 := q0.cell (i := 1) rfl
      replace r0_0 := r0.cell (i := 0) rfl
      replace r0_1 := r0.cell (i := 1) rfl
      have Z1 : Wh W3 (.agg #[.bool (Wd.ngb q), .slice Az1 nz1 cz1]) q 400000 := Zw.wh ⟨_, rfl, z1⟩ HQ2
      replace hl := hl.up (Up.refl W3).drew
      replace hm := hm.up (Up.refl W3).drew
      replace H1 := H1.up (Up.refl W3).drew
      replace H2 := H2.up (Up.refl W3).drew
      replace n1 := n1.up (Up.refl W3).drew
      replace n2 := n2.up (Up.refl W3).drew
      replace z1 := z1.up (Up.refl W3).drew
      replace Z1 := Z1.up (Up.refl W3).drew
      replace b0 := b0.up (Up.refl W3).drew
      replace b1 := b1.up (Up.refl W3).drew
      replace q0 := q0.up (Up.refl W3).drew
      replace r0 := r0.up (Up.refl W3).drew
      replace UP := UP.trans (Up.refl W3).drew
      replace b0_0 := b0.cell (i := 0) rfl
      replace b0_1 := b0.cell (i := 1) rfl
      replace b1_0 := b1.cell (i := 0) rfl
      replace b1_1 := b1.cell (i := 1) rfl
      replace q0_0 := q0.cell (i := 0) rfl
      replace q0_1 := q0.cell (i := 1) rfl
      have r0_0 := r0.cell (i := 0) rfl
      have r0_1 := r0.cell (i := 1) rfl
      have r0_f0 := r0.free 0
      have r0_f1 := r0.free 1
      go_region_held3 (fun w' => Up w w' ∧ w'.cell? ⟨w.heap.size, 0, none⟩ = some (.bool s) ∧ w'.cell? ⟨w.heap.size, 1, none⟩ = some (.slice A l.length c) ∧ w'.cell? ⟨w.heap.size + 1, 0, none⟩ = some (.bool t) ∧ w'.cell? ⟨w.heap.size + 1, 1, none⟩ = some (.slice D m.length d) ∧ w'.cell? ⟨w.heap.size + 1 + 1, 0, none⟩ = some (.bool (Wd.ngb q)) ∧ w'.cell? ⟨w.heap.size + 1 + 1, 1, none⟩ = some (.slice Az1 nz1 cz1))
          (first | with_reducible exact ⟨UP, b0_0, b0_1, b1_0, b1_1, q0_0, q0_1⟩ | with_reducible exact ⟨((UP.setCell (p := ⟨w.heap.size + 1 + 1 + 1, 0, none⟩) (by dsimp only; omega) _).setCell (p := ⟨w.heap.size + 1 + 1 + 1, 1, none⟩) (by dsimp only; omega) _), (cell_far_block (cell_far_block b0_0 (by dsimp only; omega)) (by dsimp only; omega)), (cell_far_block (cell_far_block b0_1 (by dsimp only; omega)) (by dsimp only; omega)), (cell_far_block (cell_far_block b1_0 (by dsimp only; omega)) (by dsimp only; omega)), (cell_far_block (cell_far_block b1_1 (by dsimp only; omega)) (by dsimp only; omega)), (cell_far_block (cell_far_block q0_0 (by dsimp only; omega)) (by dsimp only; omega)), (cell_far_block (cell_far_block q0_1 (by dsimp only; omega)) (by dsimp only; omega))⟩ | with_reducible exact ⟨(UP.alloc_drew _), (cell_alloc_drew b0_0), (cell_alloc_drew b0_1), (cell_alloc_drew b1_0), (cell_alloc_drew b1_1), (cell_alloc_drew q0_0), (cell_alloc_drew q0_1)⟩ | with_reducible exact ⟨(UP.alloc2_drew _ _), (cell_alloc2_drew b0_0), (cell_alloc2_drew b0_1), (cell_alloc2_drew b1_0), (cell_alloc2_drew b1_1), (cell_alloc2_drew q0_0), (cell_alloc2_drew q0_1)⟩ | (simp only [← World.setCell_drew]; with_reducible exact ⟨((UP.setCell (p := ⟨w.heap.size + 1 + 1 + 1, 0, none⟩) (by dsimp only; omega) _).setCell (p := ⟨w.heap.size + 1 + 1 + 1, 1, none⟩) (by dsimp only; omega) _), (cell_far_block (cell_far_block b0_0 (by dsimp only; omega)) (by dsimp only; omega)), (cell_far_block (cell_far_block b0_1 (by dsimp only; omega)) (by dsimp only; omega)), (cell_far_block (cell_far_block b1_0 (by dsimp only; omega)) (by dsimp only; omega)), (cell_far_block (cell_far_block b1_1 (by dsimp only; omega)) (by dsimp only; omega)), (cell_far_block (cell_far_block q0_0 (by dsimp only; omega)) (by dsimp only; omega)), (cell_far_block (cell_far_block q0_1 (by dsimp only; omega)) (by dsimp only; omega))⟩) | go_keep)
          ((first
            | (go_at_call 94
               ((with_reducible refine (whole_mul Z1 H2 (by omega) (by omega)).mono ?_))
               rintro e W4 ⟨V4, rfl, p1, u4⟩
               replace hl := hl.up u4
               replace hm := hm.up u4
               replace H1 := H1.up u4
               replace H2 := H2.up u4
               replace n1 := n1.up u4
               replace n2 := n2.up u4
               replace z1 := z1.up u4
               replace Z1 := Z1.up u4
               try (replace p1 := p1.up u4)
               try (replace z2 := z2.up u4)
               replace b0 := b0.up u4
               replace b1 := b1.up u4
               replace q0 := q0.up u4
               replace r0 := r0.up u4
               replace UP := UP.trans u4
               replace b0_0 := b0.cell (i := 0) rfl
               replace b0_1 := b0.cell (i := 1) rfl
               replace b1_0 := b1.cell (i := 0) rfl
               replace b1_1 := b1.cell (i := 1) rfl
               replace q0_0 := q0.cell (i := 0) rfl
               replace q0_1 := q0.cell (i := 1) rfl
               replace r0_0 := r0.cell (i := 0) rfl
               replace r0_1 := r0.cell (i := 1) rfl
               replace r0_f0 := r0.free 0
               replace r0_f1 := r0.free 1
               clear u4)
            | (go_at_call 107
               ((with_reducible refine (whole_sub H1 (p1.wh LQY) (by omega) (by omega)).mono ?_))
               rintro e W5 ⟨V5, rfl, z2, u5⟩
               replace hl := hl.up u5
               replace hm := hm.up u5
               replace H1 := H1.up u5
               replace H2 := H2.up u5
               replace n1 := n1.up u5
               replace n2 := n2.up u5
               replace z1 := z1.up u5
               replace Z1 := Z1.up u5
               try (replace p1 := p1.up u5)
               try (replace z2 := z2.up u5)
               replace b0 := b0.up u5
               replace b1 := b1.up u5
               replace q0 := q0.up u5
               replace r0 := r0.up u5
               replace UP := UP.trans u5
               replace b0_0 := b0.cell (i := 0) rfl
               replace b0_1 := b0.cell (i := 1) rfl
               replace b1_0 := b1.cell (i := 0) rfl
               replace b1_1 := b1.cell (i := 1) rfl
               replace q0_0 := q0.cell (i := 0) rfl
               replace q0_1 := q0.cell (i := 1) rfl
               replace r0_0 := r0.cell (i := 0) rfl
               replace r0_1 := r0.cell (i := 1) rfl
               replace r0_f0 := r0.free 0
               replace r0_f1 := r0.free 1
               clear u5
               rw [HR.out] at z2
               obtain ⟨Xz2, rfl, z2⟩ := z2
               obtain ⟨Az2, nz2, cz2, rfl⟩ := z2.shape)))
      go_wp2_with fail
      clear r0_f0 r0_f1
      have KW : Kw (W5) ((W5).setCell ⟨w.heap.size + 1 + 1 + 1, 0, none⟩ (.bool (Wd.ngb r))) := Kw.store (c := (.bool false)) r0 rfl trivial _
      replace hl := hl.kw KW
      replace hm := hm.kw KW
      replace H1 := H1.kw KW
      replace H2 := H2.kw KW
      replace n1 := n1.kw KW
      replace n2 := n2.kw KW
      replace z1 := z1.kw KW
      replace Z1 := Z1.kw KW
      replace p1 := p1.kw KW
      replace z2 := z2.kw KW
      replace b0 := b0.far (p := ⟨w.heap.size + 1 + 1 + 1, 0, none⟩) (by dsimp only; omega) (.bool (Wd.ngb r))
      replace b1 := b1.far (p := ⟨w.heap.size + 1 + 1 + 1, 0, none⟩) (by dsimp only; omega) (.bool (Wd.ngb r))
      replace q0 := q0.far (p := ⟨w.heap.size + 1 + 1 + 1, 0, none⟩) (by dsimp only; omega) (.bool (Wd.ngb r))
      replace r0 : Bx 65 ((W5).setCell ⟨w.heap.size + 1 + 1 + 1, 0, none⟩ (.bool (Wd.ngb r))) (w.heap.size + 1 + 1 + 1) [.bool (Wd.ngb r), .slice none 0 0] := r0.set 0 (.bool (Wd.ngb r))
      replace UP := UP.setCell (p := ⟨w.heap.size + 1 + 1 + 1, 0, none⟩) (by dsimp only; omega) (.bool (Wd.ngb r))
      have KW : Kw (((W5).setCell ⟨w.heap.size + 1 + 1 + 1, 0, none⟩ (.bool (Wd.ngb r)))) ((((W5).setCell ⟨w.heap.size + 1 + 1 + 1, 0, none⟩ (.bool (Wd.ngb r)))).setCell ⟨w.heap.size + 1 + 1 + 1, 1, none⟩ (.slice Az2 nz2 cz2)) := Kw.store (c := (.slice none 0 0)) r0 rfl trivial _
      replace hl := hl.kw KW
      replace hm := hm.kw KW
      replace H1 := H1.kw KW
      replace H2 := H2.kw KW
      replace n1 := n1.kw KW
      replace n2 := n2.kw KW
      replace z1 := z1.kw KW
      replace Z1 := Z1.kw KW
      replace p1 := p1.kw KW
      replace z2 := z2.kw KW
      replace b0 := b0.far (p := ⟨w.heap.size + 1 + 1 + 1, 1, none⟩) (by dsimp only; omega) (.slice Az2 nz2 cz2)
      replace b1 := b1.far (p := ⟨w.heap.size + 1 + 1 + 1, 1, none⟩) (by dsimp only; omega) (.slice Az2 nz2 cz2)
      replace q0 := q0.far (p := ⟨w.heap.size + 1 + 1 + 1, 1, none⟩) (by dsimp only; omega) (.slice Az2 nz2 cz2)
      replace r0 : Bx 65 ((((W5).setCell ⟨w.heap.size + 1 + 1 + 1, 0, none⟩ (.bool (Wd.ngb r)))).setCell ⟨w.heap.size + 1 + 1 + 1, 1, none⟩ (.slice Az2 nz2 cz2)) (w.heap.size + 1 + 1 + 1) [.bool (Wd.ngb r), .slice Az2 nz2 cz2] := r0.set 1 (.slice Az2 nz2 cz2)
      replace UP := UP.setCell (p := ⟨w.heap.size + 1 + 1 + 1, 1, none⟩) (by dsimp only; omega) (.slice Az2 nz2 cz2)
      clear KW
      generalize ((((W5).setCell ⟨w.heap.size + 1 + 1 + 1, 0, none⟩ (.bool (Wd.ngb r)))).setCell ⟨w.heap.size + 1 + 1 + 1, 1, none⟩ (.slice Az2 nz2 cz2)) = W6 at *
      replace b0_0 := b0.cell (i := 0) rfl
      replace b0_1 := b0.cell (i := 1) rfl
      replace b1_0 := b1.cell (i := 0) rfl
      replace b1_1 := b1.cell (i := 1) rfl
      replace q0_0 := q0.cell (i := 0) rfl
      replace q0_1 := q0.cell (i := 1) rfl
      replace r0_0 := r0.cell (i := 0) rfl
      replace r0_1 := r0.cell (i := 1) rfl
      have Z2 : Wh W6 (.agg #[.bool (Wd.ngb r), .slice Az2 nz2 cz2]) r 900000 := Zw.wh ⟨_, rfl, z2⟩ (LR.mono (by omega))
      replace hl := hl.up (Up.refl W6).drew
      replace hm := hm.up (Up.refl W6).drew
      replace H1 := H1.up (Up.refl W6).drew
      replace H2 := H2.up (Up.refl W6).drew
      replace n1 := n1.up (Up.refl W6).drew
      replace n2 := n2.up (Up.refl W6).drew
      replace z1 := z1.up (Up.refl W6).drew
      replace Z1 := Z1.up (Up.refl W6).drew
      replace p1 := p1.up (Up.refl W6).drew
      replace z2 := z2.up (Up.refl W6).drew
      replace Z2 := Z2.up (Up.refl W6).drew
      replace b0 := b0.up (Up.refl W6).drew
      replace b1 := b1.up (Up.refl W6).drew
      replace q0 := q0.up (Up.refl W6).drew
      replace r0 := r0.up (Up.refl W6).drew
      replace UP := UP.trans (Up.refl W6).drew
      replace b0_0 := b0.cell (i := 0) rfl
      replace b0_1 := b0.cell (i := 1) rfl
      replace b1_0 := b1.cell (i := 0) rfl
      replace b1_1 := b1.cell (i := 1) rfl
      replace q0_0 := q0.cell (i := 0) rfl
      replace q0_1 := q0.cell (i := 1) rfl
      replace r0_0 := r0.cell (i := 0) rfl
      replace r0_1 := r0.cell (i := 1) rfl
      go_region_held3 (fun w' => Up w w' ∧ w'.cell? ⟨w.heap.size, 0, none⟩ = some (.bool s) ∧ w'.cell? ⟨w.heap.size, 1, none⟩ = some (.slice A l.length c) ∧ w'.cell? ⟨w.heap.size + 1, 0, none⟩ = some (.bool t) ∧ w'.cell? ⟨w.heap.size + 1, 1, none⟩ = some (.slice D m.length d) ∧ w'.cell? ⟨w.heap.size + 1 + 1, 0, none⟩ = some (.bool (Wd.ngb q)) ∧ w'.cell? ⟨w.heap.size + 1 + 1, 1, none⟩ = some (.slice Az1 nz1 cz1) ∧ w'.cell? ⟨w.heap.size + 1 + 1 + 1, 0, none⟩ = some (.bool (Wd.ngb r)) ∧ w'.cell? ⟨w.heap.size + 1 + 1 + 1, 1, none⟩ = some (.slice Az2 nz2 cz2))
          (first | with_reducible exact ⟨UP, b0_0, b0_1, b1_0, b1_1, q0_0, q0_1, r0_0, r0_1⟩ | with_reducible exact ⟨UP, b0_0, b0_1, b1_0, b1_1, q0_0, q0_1, r0_0, r0_1⟩ | with_reducible exact ⟨(UP.alloc_drew _), (cell_alloc_drew b0_0), (cell_alloc_drew b0_1), (cell_alloc_drew b1_0), (cell_alloc_drew b1_1), (cell_alloc_drew q0_0), (cell_alloc_drew q0_1), (cell_alloc_drew r0_0), (cell_alloc_drew r0_1)⟩ | with_reducible exact ⟨(UP.alloc2_drew _ _), (cell_alloc2_drew b0_0), (cell_alloc2_drew b0_1), (cell_alloc2_drew b1_0), (cell_alloc2_drew b1_1), (cell_alloc2_drew q0_0), (cell_alloc2_drew q0_1), (cell_alloc2_drew r0_0), (cell_alloc2_drew r0_1)⟩ | (simp only [← World.setCell_drew]; with_reducible exact ⟨UP, b0_0, b0_1, b1_0, b1_1, q0_0, q0_1, r0_0, r0_1⟩) | go_keep)
          ((first
            | (go_at_call 92
               ((with_reducible refine (whole_sign Z2 (by omega)).mono ?_))
               rintro e W7 ⟨rfl, u7⟩
               replace hl := hl.up u7
               replace hm := hm.up u7
               replace H1 := H1.up u7
               replace H2 := H2.up u7
               replace n1 := n1.up u7
               replace n2 := n2.up u7
               replace z1 := z1.up u7
               replace Z1 := Z1.up u7
               replace p1 := p1.up u7
               replace z2 := z2.up u7
               replace Z2 := Z2.up u7
               replace b0 := b0.up u7
               replace b1 := b1.up u7
               replace q0 := q0.up u7
               replace r0 := r0.up u7
               replace UP := UP.trans u7
               replace b0_0 := b0.cell (i := 0) rfl
               replace b0_1 := b0.cell (i := 1) rfl
               replace b1_0 := b1.cell (i := 0) rfl
               replace b1_1 := b1.cell (i := 1) rfl
               replace q0_0 := q0.cell (i := 0) rfl
               replace q0_1 := q0.cell (i := 1) rfl
               replace r0_0 := r0.cell (i := 0) rfl
               replace r0_1 := r0.cell (i := 1) rfl
               clear u7
               rw [HS.out])
            | (go_at_call 92
               ((with_reducible refine (whole_sign H2 (by omega)).mono ?_))
               rintro e W8 ⟨rfl, u8⟩
               replace hl := hl.up u8
               replace hm := hm.up u8
               replace H1 := H1.up u8
               replace H2 := H2.up u8
               replace n1 := n1.up u8
               replace n2 := n2.up u8
               replace z1 := z1.up u8
               replace Z1 := Z1.up u8
               replace p1 := p1.up u8
               replace z2 := z2.up u8
               replace Z2 := Z2.up u8
               replace b0 := b0.up u8
               replace b1 := b1.up u8
               replace q0 := q0.up u8
               replace r0 := r0.up u8
               replace UP := UP.trans u8
               replace b0_0 := b0.cell (i := 0) rfl
               replace b0_1 := b0.cell (i := 1) rfl
               replace b1_0 := b1.cell (i := 0) rfl
               replace b1_1 := b1.cell (i := 1) rfl
               replace q0_0 := q0.cell (i := 0) rfl
               replace q0_1 := q0.cell (i := 1) rfl
               replace r0_0 := r0.cell (i := 0) rfl
               replace r0_1 := r0.cell (i := 1) rfl
               clear u8
               rw [HY.out])))
      go_wp2_with fail
      have g0 := q0.free 0
      have g1 := q0.free 1
      have g2 := r0.free 0
      have g3 := r0.free 1
      go_region
      clear g0 g1 g2 g3
      have KW : Kw (W8) ((W8).setCell ⟨w.heap.size + 1 + 1, 0, none⟩ (.bool (Wd.ngb q))) := Kw.store (c := (.bool (Wd.ngb q))) q0 rfl trivial _
      replace hl := hl.kw KW
      replace hm := hm.kw KW
      replace H1 := H1.kw KW
      replace H2 := H2.kw KW
      replace n1 := n1.kw KW
      replace n2 := n2.kw KW
      replace z1 := z1.kw KW
      replace Z1 := Z1.kw KW
      replace p1 := p1.kw KW
      replace z2 := z2.kw KW
      replace Z2 := Z2.kw KW
      replace b0 := b0.far (p := ⟨w.heap.size + 1 + 1, 0, none⟩) (by dsimp only; omega) (.bool (Wd.ngb q))
      replace b1 := b1.far (p := ⟨w.heap.size + 1 + 1, 0, none⟩) (by dsimp only; omega) (.bool (Wd.ngb q))
      replace r0 := r0.far (p := ⟨w.heap.size + 1 + 1, 0, none⟩) (by dsimp only; omega) (.bool (Wd.ngb q))
      replace q0 : Bx 65 ((W8).setCell ⟨w.heap.size + 1 + 1, 0, none⟩ (.bool (Wd.ngb q))) (w.heap.size + 1 + 1) [.bool (Wd.ngb q), .slice Az1 nz1 cz1] := q0.set 0 (.bool (Wd.ngb q))
      replace UP := UP.setCell (p := ⟨w.heap.size + 1 + 1, 0, none⟩) (by dsimp only; omega) (.bool (Wd.ngb q))
      have KW : Kw (((W8).setCell ⟨w.heap.size + 1 + 1, 0, none⟩ (.bool (Wd.ngb q)))) ((((W8).setCell ⟨w.heap.size + 1 + 1, 0, none⟩ (.bool (Wd.ngb q)))).setCell ⟨w.heap.size + 1 + 1, 1, none⟩ (.slice Az1 nz1 cz1)) := Kw.store (c := (.slice Az1 nz1 cz1)) q0 rfl trivial _
      replace hl := hl.kw KW
      replace hm := hm.kw KW
      replace H1 := H1.kw KW
      replace H2 := H2.kw KW
      replace n1 := n1.kw KW
      replace n2 := n2.kw KW
      replace z1 := z1.kw KW
      replace Z1 := Z1.kw KW
      replace p1 := p1.kw KW
      replace z2 := z2.kw KW
      replace Z2 := Z2.kw KW
      replace b0 := b0.far (p := ⟨w.heap.size + 1 + 1, 1, none⟩) (by dsimp only; omega) (.slice Az1 nz1 cz1)
      replace b1 := b1.far (p := ⟨w.heap.size + 1 + 1, 1, none⟩) (by dsimp only; omega) (.slice Az1 nz1 cz1)
      replace r0 := r0.far (p := ⟨w.heap.size + 1 + 1, 1, none⟩) (by dsimp only; omega) (.slice Az1 nz1 cz1)
      replace q0 : Bx 65 ((((W8).setCell ⟨w.heap.size + 1 + 1, 0, none⟩ (.bool (Wd.ngb q)))).setCell ⟨w.heap.size + 1 + 1, 1, none⟩ (.slice Az1 nz1 cz1)) (w.heap.size + 1 + 1) [.bool (Wd.ngb q), .slice Az1 nz1 cz1] := q0.set 1 (.slice Az1 nz1 cz1)
      replace UP := UP.setCell (p := ⟨w.heap.size + 1 + 1, 1, none⟩) (by dsimp only; omega) (.slice Az1 nz1 cz1)
      clear KW
      generalize ((((W8).setCell ⟨w.heap.size + 1 + 1, 0, none⟩ (.bool (Wd.ngb q)))).setCell ⟨w.heap.size + 1 + 1, 1, none⟩ (.slice Az1 nz1 cz1)) = W9 at *
      replace b0_0 := b0.cell (i := 0) rfl
      replace b0_1 := b0.cell (i := 1) rfl
      replace b1_0 := b1.cell (i := 0) rfl
      replace b1_1 := b1.cell (i := 1) rfl
      replace q0_0 := q0.cell (i := 0) rfl
      replace q0_1 := q0.cell (i := 1) rfl
      replace r0_0 := r0.cell (i := 0) rfl
      replace r0_1 := r0.cell (i := 1) rfl
      have KW : Kw (W9) ((W9).setCell ⟨w.heap.size + 1 + 1 + 1, 0, none⟩ (.bool (Wd.ngb r))) := Kw.store (c := (.bool (Wd.ngb r))) r0 rfl trivial _
      replace hl := hl.kw KW
      replace hm := hm.kw KW
      replace H1 := H1.kw KW
      replace H2 := H2.kw KW
      replace n1 := n1.kw KW
      replace n2 := n2.kw KW
      replace z1 := z1.kw KW
      replace Z1 := Z1.kw KW
      replace p1 := p1.kw KW
      replace z2 := z2.kw KW
      replace Z2 := Z2.kw KW
      replace b0 := b0.far (p := ⟨w.heap.size + 1 + 1 + 1, 0, none⟩) (by dsimp only; omega) (.bool (Wd.ngb r))
      replace b1 := b1.far (p := ⟨w.heap.size + 1 + 1 + 1, 0, none⟩) (by dsimp only; omega) (.bool (Wd.ngb r))
      replace q0 := q0.far (p := ⟨w.heap.size + 1 + 1 + 1, 0, none⟩) (by dsimp only; omega) (.bool (Wd.ngb r))
      replace r0 : Bx 65 ((W9).setCell ⟨w.heap.size + 1 + 1 + 1, 0, none⟩ (.bool (Wd.ngb r))) (w.heap.size + 1 + 1 + 1) [.bool (Wd.ngb r), .slice Az2 nz2 cz2] := r0.set 0 (.bool (Wd.ngb r))
      replace UP := UP.setCell (p := ⟨w.heap.size + 1 + 1 + 1, 0, none⟩) (by dsimp only; omega) (.bool (Wd.ngb r))
      have KW : Kw (((W9).setCell ⟨w.heap.size + 1 + 1 + 1, 0, none⟩ (.bool (Wd.ngb r)))) ((((W9).setCell ⟨w.heap.size + 1 + 1 + 1, 0, none⟩ (.bool (Wd.ngb r)))).setCell ⟨w.heap.size + 1 + 1 + 1, 1, none⟩ (.slice Az2 nz2 cz2)) := Kw.store (c := (.slice Az2 nz2 cz2)) r0 rfl trivial _
      replace hl := hl.kw KW
      replace hm := hm.kw KW
      replace H1 := H1.kw KW
      replace H2 := H2.kw KW
      replace n1 := n1.kw KW
      replace n2 := n2.kw KW
      replace z1 := z1.kw KW
      replace Z1 := Z1.kw KW
      replace p1 := p1.kw KW
      replace z2 := z2.kw KW
      replace Z2 := Z2.kw KW
      replace b0 := b0.far (p := ⟨w.heap.size + 1 + 1 + 1, 1, none⟩) (by dsimp only; omega) (.slice Az2 nz2 cz2)
      replace b1 := b1.far (p := ⟨w.heap.size + 1 + 1 + 1, 1, none⟩) (by dsimp only; omega) (.slice Az2 nz2 cz2)
      replace q0 := q0.far (p := ⟨w.heap.size + 1 + 1 + 1, 1, none⟩) (by dsimp only; omega) (.slice Az2 nz2 cz2)
      replace r0 : Bx 65 ((((W9).setCell ⟨w.heap.size + 1 + 1 + 1, 0, none⟩ (.bool (Wd.ngb r)))).setCell ⟨w.heap.size + 1 + 1 + 1, 1, none⟩ (.slice Az2 nz2 cz2)) (w.heap.size + 1 + 1 + 1) [.bool (Wd.ngb r), .slice Az2 nz2 cz2] := r0.set 1 (.slice Az2 nz2 cz2)
      replace UP := UP.setCell (p := ⟨w.heap.size + 1 + 1 + 1, 1, none⟩) (by dsimp only; omega) (.slice Az2 nz2 cz2)
      clear KW
      generalize ((((W9).setCell ⟨w.heap.size + 1 + 1 + 1, 0, none⟩ (.bool (Wd.ngb r)))).setCell ⟨w.heap.size + 1 + 1 + 1, 1, none⟩ (.slice Az2 nz2 cz2)) = W10 at *
      replace b0_0 := b0.cell (i := 0) rfl
      replace b0_1 := b0.cell (i := 1) rfl
      replace b1_0 := b1.cell (i := 0) rfl
      replace b1_1 := b1.cell (i := 1) rfl
      replace q0_0 := q0.cell (i := 0) rfl
      replace q0_1 := q0.cell (i := 1) rfl
      replace r0_0 := r0.cell (i := 0) rfl
      replace r0_1 := r0.cell (i := 1) rfl
      replace hl := hl.up (Up.refl W10).drew
      replace hm := hm.up (Up.refl W10).drew
      replace H1 := H1.up (Up.refl W10).drew
      replace H2 := H2.up (Up.refl W10).drew
      replace n1 := n1.up (Up.refl W10).drew
      replace n2 := n2.up (Up.refl W10).drew
      replace z1 := z1.up (Up.refl W10).drew
      replace Z1 := Z1.up (Up.refl W10).drew
      replace p1 := p1.up (Up.refl W10).drew
      replace z2 := z2.up (Up.refl W10).drew
      replace Z2 := Z2.up (Up.refl W10).drew
      replace b0 := b0.up (Up.refl W10).drew
      replace b1 := b1.up (Up.refl W10).drew
      replace q0 := q0.up (Up.refl W10).drew
      replace r0 := r0.up (Up.refl W10).drew
      replace UP := UP.trans (Up.refl W10).drew
      replace b0_0 := b0.cell (i := 0) rfl
      replace b0_1 := b0.cell (i := 1) rfl
      replace b1_0 := b1.cell (i := 0) rfl
      replace b1_1 := b1.cell (i := 1) rfl
      replace q0_0 := q0.cell (i := 0) rfl
      replace q0_1 := q0.cell (i := 1) rfl
      replace r0_0 := r0.cell (i := 0) rfl
      replace r0_1 := r0.cell (i := 1) rfl
      generalize W10.drew = W11 at *
      go_wp2
      exact bodyPost_ret (run_res_cell2_tmp rfl rfl rfl agg_whole size_whole agg_whole size_whole q0 rfl r0 rfl) rfl ⟨_, _, r, rfl, by rw [← HE.out]; exact ⟨_, rfl, z1⟩, ⟨_, rfl, z2⟩, UP⟩
end Go.Proofs.Ytjkkeilmnklpcaa
