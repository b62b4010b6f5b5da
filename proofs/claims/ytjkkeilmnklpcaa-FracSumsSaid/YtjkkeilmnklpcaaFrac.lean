/-
  Layer 9: fractions: the right one, the parts.
-/
import Derived.Test.YtjkkeilmnklpcaaFracMath
import Derived.Test.YtjkkeilmnklpcaaWhole2
set_option linter.unusedVariables false
set_option linter.unusedSimpArgs false
namespace Go.Proofs.Ytjkkeilmnklpcaa
open Go.RowKit

/-- A fraction that may be spelled in any way, of at most so many words in each number. -/
def Fr (w : World) (v : Value) (q : Rat) (k : Nat) : Prop :=
  ∃ s u d l m, v = .agg #[.bool s, u, d] ∧ Ws w u l ∧ Ws w d m ∧ mkRat (Wd.iv s (Wd.val l)) (Wd.val m) = q ∧ l.length ≤ k ∧ m.length ≤ k ∧ 1 ≤ k
theorem Fr.kw {w w' : World} {v : Value} {q : Rat} {k : Nat} (h : Fr w v q k) (hu : Kw w w') : Fr w' v q k := by
  obtain ⟨s, u, d, l, m, h1, h2, h3, h4⟩ := h
  exact ⟨s, u, d, l, m, h1, h2.kw hu, h3.kw hu, h4⟩
theorem Fr.up {w w' : World} {v : Value} {q : Rat} {k : Nat} (h : Fr w v q k) (hu : Up w w') : Fr w' v q k := h.kw hu.kw
theorem Fr.mono {w : World} {v : Value} {q : Rat} {j k : Nat} (h : Fr w v q j) (hk : j ≤ k) : Fr w v q k := by
  obtain ⟨s, u, d, l, m, h1, h2, h3, h4, h5, h6, h7⟩ := h
  exact ⟨s, u, d, l, m, h1, h2, h3, h4, Nat.le_trans h5 hk, Nat.le_trans h6 hk, Nat.le_trans h7 hk⟩
theorem Fr.lq {w : World} {v : Value} {q : Rat} {k : Nat} (h : Fr w v q k) : Wd.Lq q k := by
  obtain ⟨s, u, d, l, m, h1, h2, h3, rfl, h5, h6, h7⟩ := h
  exact Wd.Lq.mk (Wd.Lz.iv (Nat.le_trans (Wd.words_val_length h2.ok) h5)) (Nat.le_trans (Wd.words_val_length h3.ok) h6) h7
/-- The right one. -/
def Qw (w : World) (v : Value) (q : Rat) : Prop := ∃ u d, v = .agg #[.bool (Wd.ngb q.num), u, d] ∧ Ws w u (Wd.words q.num.natAbs) ∧ Ws w d (Wd.words q.den)
theorem Qw.kw {w w' : World} {v : Value} {q : Rat} (h : Qw w v q) (hu : Kw w w') : Qw w' v q := by
  obtain ⟨u, d, h1, h2, h3⟩ := h
  exact ⟨u, d, h1, h2.kw hu, h3.kw hu⟩
theorem Qw.up {w w' : World} {v : Value} {q : Rat} (h : Qw w v q) (hu : Up w w') : Qw w' v q := h.kw hu.kw
theorem Qw.fr {w : World} {v : Value} {q : Rat} {k : Nat} (h : Qw w v q) (hk : Wd.Lq q k) : Fr w v q k := by
  obtain ⟨u, d, h1, h2, h3⟩ := h
  exact ⟨_, u, d, _, _, h1, h2, h3, by rw [Wd.val_words, Wd.val_words, Wd.iv_ngb, Rat.mkRat_self], hk.1, hk.2, hk.pos⟩
theorem Qw.mk {w : World} {u d : Value} {q : Rat} {s : Bool} {n m : Nat} (h : Ws w u (Wd.words n)) (k : Ws w d (Wd.words m)) (hs : s = Wd.ngb q.num) (hn : q.num.natAbs = n) (hm : q.den = m) : Qw w (.agg #[.bool s, u, d]) q := by
  subst hs hn hm
  exact ⟨u, d, rfl, h, k⟩
/-- What comes back: a right fraction; one, and whether there is any. -/
def RetQ (q : Rat) (w : World) (e : Ending) (w' : World) : Prop := ∃ v, e = .returned v ∧ Qw w' v q ∧ Up w w'
def RetQB (q : Rat) (b : Bool) (w : World) (e : Ending) (w' : World) : Prop := ∃ v, e = .returned (.tuple #[v, .bool b]) ∧ Qw w' v q ∧ Up w w'

theorem agg_frac (w : World) : (isAgg 67).run Try.prog w = .ok true w := by kernel_rfl
theorem size_frac (w : World) : (sizeOf 67).run Try.prog w = .ok 3 w := by kernel_rfl
theorem q_stored {w0 w : World} {T : TypeId} {g : Nat} {q : Rat} {s : Bool} {u d p1 p2 p3 : Value}
    (h : Qw w (.agg #[.bool s, u, d]) q) (r : Bx T w g [p1, p2, p3]) (n1 : NoWord p1) (n2 : NoWord p2) (n3 : NoWord p3) (hu : Up w0 w) (hg : w0.heap.size ≤ g) :
    Bx T (((w.setCell ⟨g, 0, none⟩ (.bool s)).setCell ⟨g, 1, none⟩ u).setCell ⟨g, 2, none⟩ d) g [.bool s, u, d] ∧ Qw (((w.setCell ⟨g, 0, none⟩ (.bool s)).setCell ⟨g, 1, none⟩ u).setCell ⟨g, 2, none⟩ d) (.agg #[.bool s, u, d]) q ∧
      Up w0 (((w.setCell ⟨g, 0, none⟩ (.bool s)).setCell ⟨g, 1, none⟩ u).setCell ⟨g, 2, none⟩ d) := by
  have r1 : Bx T (w.setCell ⟨g, 0, none⟩ (.bool s)) g [.bool s, p2, p3] := r.set 0 _
  have r2 : Bx T ((w.setCell ⟨g, 0, none⟩ (.bool s)).setCell ⟨g, 1, none⟩ u) g [.bool s, u, p3] := r1.set 1 _
  have r3 : Bx T (((w.setCell ⟨g, 0, none⟩ (.bool s)).setCell ⟨g, 1, none⟩ u).setCell ⟨g, 2, none⟩ d) g [.bool s, u, d] := r2.set 2 _
  have k1 := Kw.store (i := 0) (c := p1) r rfl n1 (.bool s)
  have k2 := Kw.store (i := 1) (c := p2) r1 rfl n2 u
  have k3 := Kw.store (i := 2) (c := p3) r2 rfl n3 d
  exact ⟨r3, h.kw ((k1.trans k2).trans k3), ((hu.setCell (p := ⟨g, 0, none⟩) hg _).setCell (p := ⟨g, 1, none⟩) hg _).setCell (p := ⟨g, 2, none⟩) hg _⟩
/-- It ends with a fraction, stored into the result's cell. -/
theorem end_q {fn : Func} {a : Act} {w0 w : World} {t : Tmp} {g : Nat} {q : Rat} {s : Bool} {u d p1 p2 p3 : Value} (hres : fn.results = #[.cell t 67]) (ht : a.tmps.getD t undef = .pointer (some ⟨g, 0, none⟩)) (hd : a.defers = [])
    (h : Qw w (.agg #[.bool s, u, d]) q) (r : Bx 67 w g [p1, p2, p3]) (n1 : NoWord p1) (n2 : NoWord p2) (n3 : NoWord p3) (hu : Up w0 w) (hg : w0.heap.size ≤ g) :
    bodyPost Try.prog fn (RetQ q w0) .ret a (((w.setCell ⟨g, 0, none⟩ (.bool s)).setCell ⟨g, 1, none⟩ u).setCell ⟨g, 2, none⟩ d) := by
  obtain ⟨r3, h3, u3⟩ := q_stored h r n1 n2 n3 hu hg
  exact bodyPost_ret (run_res_cell hres ht agg_frac size_frac r3 rfl) hd ⟨_, rfl, h3, u3⟩
theorem end_qb {fn : Func} {a : Act} {w0 w : World} {t t' : Tmp} {g : Nat} {q : Rat} {b s : Bool} {u d p1 p2 p3 : Value} (hres : fn.results = #[.cell t 67, .tmp t']) (ht : a.tmps.getD t undef = .pointer (some ⟨g, 0, none⟩)) (hb : a.tmps.getD t' undef = .bool b) (hd : a.defers = [])
    (h : Qw w (.agg #[.bool s, u, d]) q) (r : Bx 67 w g [p1, p2, p3]) (n1 : NoWord p1) (n2 : NoWord p2) (n3 : NoWord p3) (hu : Up w0 w) (hg : w0.heap.size ≤ g) :
    bodyPost Try.prog fn (RetQB q b w0) .ret a (((w.setCell ⟨g, 0, none⟩ (.bool s)).setCell ⟨g, 1, none⟩ u).setCell ⟨g, 2, none⟩ d) := by
  obtain ⟨r3, h3, u3⟩ := q_stored h r n1 n2 n3 hu hg
  refine bodyPost_ret (run_res_cell_tmp hres ht agg_frac size_frac r3 rfl) hd ⟨_, by rw [hb], h3, u3⟩

theorem Wh.mk {w : World} {u : Value} {l : List Nat} {k : Nat} (s : Bool) (h : Ws w u l) (hk : l.length ≤ k) : Wh w (.agg #[.bool s, u]) (Wd.iv s (Wd.val l)) k := ⟨s, u, l, rfl, h, rfl, hk⟩
theorem len_over {n k : Nat} (h : (Wd.words n).length ≤ k) (g : Nat) : (Wd.words (n / g)).length ≤ k := Nat.le_trans (Wd.words_mono (Nat.div_le_self _ _)) h

set_option maxHeartbeats 1600000 in
theorem frac_cancel {v u : Value} {z : Int} {m : List Nat} {j : Nat} {w : World} (h : Wh w v z j) (h' : Ws w u m) (hj : j ≤ 1000000) (hk : m.length ≤ 1000000) (h0 : Wd.val m ≠ 0) : Calls Try.prog 93 #[v, u] w (RetQ (mkRat z (Wd.val m)) w) := by
  obtain ⟨s, v1, l, rfl, hl, hz, hle⟩ := h
  have h1 := len_over (Wd.words_val_length hl.ok) (Nat.gcd (Wd.val l) (Wd.val m))
  obtain ⟨A, c, rfl⟩ := hl.form
  obtain ⟨D, d, rfl⟩ := h'.form
  subst hz
  have HP := Lib.hid (Wd.mkRat_parts s (Wd.val l) h0)
  clear h0
  have UP : Up w ((w.alloc (.cells #[.bool s, .slice A l.length c] 65)).alloc (.cells #[.bool false, .slice none 0 0, .slice none 0 0] 67)) := ((Up.refl w).alloc _).alloc _
  obtain ⟨b0, r0⟩ := bx_two 65 67 w [.bool s, .slice A l.length c] [.bool false, .slice none 0 0, .slice none 0 0]
  go_enter Try.func93, Try.ntmps93
  go_wp2_with fail
  generalize ((w.alloc (.cells #[.bool s, .slice A l.length c] 65)).alloc (.cells #[.bool false, .slice none 0 0, .slice none 0 0] 67)) = W at *
  replace hl := hl.up UP
  replace h' := h'.up UP
  have b0_0 := b0.cell (i := 0) rfl
  have b0_1 := b0.cell (i := 1) rfl
  have r0_0 := r0.cell (i := 0) rfl
  have r0_1 := r0.cell (i := 1) rfl
  have r0_2 := r0.cell (i := 2) rfl
  have r0_f0 := r0.free 0
  have r0_f1 := r0.free 1
  have r0_f2 := r0.free 2
  go_wp2_with fail
  ((with_reducible refine (common_cancel hl h' (by omega) (by omega)).mono ?_))
  rintro e W1 ⟨V1, V1', rfl, n1, n2, u1⟩
  replace hl := hl.up u1
  replace h' := h'.up u1
  replace b0 := b0.up u1
  replace r0 := r0.up u1
  replace UP := UP.trans u1
  replace b0_0 := b0.cell (i := 0) rfl
  replace b0_1 := b0.cell (i := 1) rfl
  replace r0_0 := r0.cell (i := 0) rfl
  replace r0_1 := r0.cell (i := 1) rfl
  replace r0_2 := r0.cell (i := 2) rfl
  replace r0_f0 := r0.free 0
  replace r0_f1 := r0.free 1
  replace r0_f2 := r0.free 2
  clear u1
  obtain ⟨A1, k1, c1, rfl⟩ := n1.shape
  go_wp2_with fail
  ((with_reducible refine (whole_norm (Wh.mk s n1 (k := 1000000) (by omega)) (by omega)).mono ?_))
  rintro e W2 ⟨V2, rfl, z1, u2⟩
  replace hl := hl.up u2
  replace h' := h'.up u2
  replace n1 := n1.up u2
  replace n2 := n2.up u2
  replace b0 := b0.up u2
  replace r0 := r0.up u2
  replace UP := UP.trans u2
  replace b0_0 := b0.cell (i := 0) rfl
  replace b0_1 := b0.cell (i := 1) rfl
  replace r0_0 := r0.cell (i := 0) rfl
  replace r0_1 := r0.cell (i := 1) rfl
  replace r0_2 := r0.cell (i := 2) rfl
  replace r0_f0 := r0.free 0
  replace r0_f1 := r0.free 1
  replace r0_f2 := r0.free 2
  clear u2
  rw [Wd.val_words] at z1
  obtain ⟨Xz1, rfl, z1⟩ := z1
  obtain ⟨Az1, nz1, cz1, rfl⟩ := z1.shape
  obtain ⟨A2, k2, c2, rfl⟩ := n2.shape
  go_wp2_with fail
  exact end_q rfl rfl rfl (Qw.mk z1 n2 (by rw [HP.out.1]) (by rw [HP.out.1]) HP.out.2) r0 trivial trivial trivial UP (by omega)

/-- What comes back of the parts. -/
def RetParts (q : Rat) (k : Nat) (w : World) (e : Ending) (w' : World) : Prop :=
  ∃ s L D l m, e = .returned (.tuple #[.agg #[.bool s, L], D]) ∧ Ws w' L l ∧ Ws w' D m ∧ Hid (mkRat (Wd.iv s (Wd.val l)) (Wd.val m) = q ∧ Wd.val m ≠ 0) ∧ l.length ≤ k ∧ m.length ≤ k ∧ Up w w'
theorem end_parts {fn : Func} {a : Act} {w0 w : World} {t t' : Tmp} {g k : Nat} {q : Rat} {s : Bool} {u d p1 p2 : Value} {l m : List Nat} (hres : fn.results = #[.cell t 65, .tmp t']) (ht : a.tmps.getD t undef = .pointer (some ⟨g, 0, none⟩)) (hd' : a.tmps.getD t' undef = d) (hd : a.defers = [])
    (h : Ws w u l) (h' : Ws w d m) (hq : Hid (mkRat (Wd.iv s (Wd.val l)) (Wd.val m) = q ∧ Wd.val m ≠ 0)) (hl : l.length ≤ k) (hm : m.length ≤ k) (r : Bx 65 w g [p1, p2]) (n1 : NoWord p1) (n2 : NoWord p2) (hu : Up w0 w) (hg : w0.heap.size ≤ g) :
    bodyPost Try.prog fn (RetParts q k w0) .ret a ((w.setCell ⟨g, 0, none⟩ (.bool s)).setCell ⟨g, 1, none⟩ u) := by
  have r1 : Bx 65 (w.setCell ⟨g, 0, none⟩ (.bool s)) g [.bool s, p2] := r.set 0 _
  have r2 : Bx 65 ((w.setCell ⟨g, 0, none⟩ (.bool s)).setCell ⟨g, 1, none⟩ u) g [.bool s, u] := r1.set 1 _
  have k1 := (Kw.store (i := 0) (c := p1) r rfl n1 (.bool s)).trans (Kw.store (i := 1) (c := p2) r1 rfl n2 u)
  exact bodyPost_ret (run_res_cell_tmp hres ht agg_whole size_whole r2 rfl) hd ⟨s, u, d, l, m, by rw [hd'], h.kw k1, h'.kw k1, hq, hl, hm, (hu.setCell (p := ⟨g, 0, none⟩) hg _).setCell (p := ⟨g, 1, none⟩) hg _⟩

set_option maxHeartbeats 1600000 in
theorem frac_parts {v : Value} {q : Rat} {k : Nat} {w : World} (h : Fr w v q k) (hk : k ≤ 1000000) : Calls Try.prog 91 #[v] w (RetParts q k w) := by
  obtain ⟨s, v1, v2, l, m, rfl, hl, hm, hq, hle, hme, h1⟩ := h
  obtain ⟨A, c, rfl⟩ := hl.form
  obtain ⟨D, d, rfl⟩ := hm.form
  by_cases h0 : Wd.val m = 0
  · have H0 : Hid (decide (Wd.val m = 0) = true) := Lib.hid (decide_eq_true h0)
    have HQ : Hid (mkRat (Wd.iv false (Wd.val [])) (Wd.val (Wd.words 1)) = q ∧ Wd.val (Wd.words 1) ≠ 0) := Lib.hid (by
      rw [h0, Rat.mkRat_zero] at hq
      rw [Wd.val_words]
      exact ⟨by rw [← hq]; rfl, by omega⟩)
    have hlen : (Wd.words 1).length ≤ k := Nat.le_trans Wd.words_one_len h1
    clear h0 hq
    have UP : Up w ((w.alloc (.cells #[.bool s, .slice A l.length c, .slice D m.length d] 67)).alloc (.cells #[.bool false, .slice none 0 0] 65)) := ((Up.refl w).alloc _).alloc _
    obtain ⟨b0, r0⟩ := bx_two 67 65 w [.bool s, .slice A l.length c, .slice D m.length d] [.bool false, .slice none 0 0]
    go_enter Try.func91, Try.ntmps91
    go_wp2_with fail
    generalize ((w.alloc (.cells #[.bool s, .slice A l.length c, .slice D m.length d] 67)).alloc (.cells #[.bool false, .slice none 0 0] 65)) = W at *
    replace hl := hl.up UP
    replace hm := hm.up UP
    have b0_0 := b0.cell (i := 0) rfl
    have b0_1 := b0.cell (i := 1) rfl
    have b0_2 := b0.cell (i := 2) rfl
    have r0_0 := r0.cell (i := 0) rfl
    have r0_1 := r0.cell (i := 1) rfl
    have r0_f0 := r0.free 0
    have r0_f1 := r0.free 1
    go_wp2_with fail
    ((with_reducible refine (nat_zero hm (by omega)).mono ?_))
    rintro e W1 ⟨rfl, rfl⟩
    rw [H0.out]
    go_wp2_with fail
    ((with_reducible refine (nat_of (n := 1) 1 rfl (by omega) _).mono ?_))
    rintro e W2 ⟨V2, rfl, n1, u2⟩
    replace hl := hl.up u2
    replace hm := hm.up u2
    replace b0 := b0.up u2
    replace r0 := r0.up u2
    replace UP := UP.trans u2
    replace b0_0 := b0.cell (i := 0) rfl
    replace b0_1 := b0.cell (i := 1) rfl
    replace b0_2 := b0.cell (i := 2) rfl
    replace r0_0 := r0.cell (i := 0) rfl
    replace r0_1 := r0.cell (i := 1) rfl
    replace r0_f0 := r0.free 0
    replace r0_f1 := r0.free 1
    clear u2
    obtain ⟨A1, k1, c1, rfl⟩ := n1.shape
    go_wp2_with fail
    exact end_parts rfl rfl rfl rfl (Ws.nil _) n1 HQ (by simp) hlen r0 trivial trivial UP (by omega)
  · have H0 : Hid (decide (Wd.val m = 0) = false) := Lib.hid (decide_eq_false h0)
    have HQ : Hid (mkRat (Wd.iv s (Wd.val l)) (Wd.val m) = q ∧ Wd.val m ≠ 0) := Lib.hid ⟨hq, h0⟩
    clear h0 hq
    have UP : Up w ((w.alloc (.cells #[.bool s, .slice A l.length c, .slice D m.length d] 67)).alloc (.cells #[.bool false, .slice none 0 0] 65)) := ((Up.refl w).alloc _).alloc _
    obtain ⟨b0, r0⟩ := bx_two 67 65 w [.bool s, .slice A l.length c, .slice D m.length d] [.bool false, .slice none 0 0]
    go_enter Try.func91, Try.ntmps91
    go_wp2_with fail
    generalize ((w.alloc (.cells #[.bool s, .slice A l.length c, .slice D m.length d] 67)).alloc (.cells #[.bool false, .slice none 0 0] 65)) = W at *
    replace hl := hl.up UP
    replace hm := hm.up UP
    have b0_0 := b0.cell (i := 0) rfl
    have b0_1 := b0.cell (i := 1) rfl
    have b0_2 := b0.cell (i := 2) rfl
    have r0_0 := r0.cell (i := 0) rfl
    have r0_1 := r0.cell (i := 1) rfl
    have r0_f0 := r0.free 0
    have r0_f1 := r0.free 1
    go_wp2_with fail
    ((with_reducible refine (nat_zero hm (by omega)).mono ?_))
    rintro e W1 ⟨rfl, rfl⟩
    rw [H0.out]
    go_wp2_with fail
    replace hl := hl.up (Up.refl W).drew
    replace hm := hm.up (Up.refl W).drew
    replace b0 := b0.up (Up.refl W).drew
    replace r0 := r0.up (Up.refl W).drew
    replace UP := UP.trans (Up.refl W).drew
    replace b0_0 := b0.cell (i := 0) rfl
    replace b0_1 := b0.cell (i := 1) rfl
    replace b0_2 := b0.cell (i := 2) rfl
    have r0_0 := r0.cell (i := 0) rfl
    have r0_1 := r0.cell (i := 1) rfl
    have r0_f0 := r0.free 0
    have r0_f1 := r0.free 1
    go_region_held3 (fun w' => Up w w' ∧ w'.cell? ⟨w.heap.size, 0, none⟩ = some (.bool s) ∧ w'.cell? ⟨w.heap.size, 1, none⟩ = some (.slice A l.length c) ∧ w'.cell? ⟨w.heap.size, 2, none⟩ = some (.slice D m.length d))
        (first | with_reducible exact ⟨UP, b0_0, b0_1, b0_2⟩ | with_reducible exact ⟨((UP.setCell (p := ⟨w.heap.size + 1, 0, none⟩) (by dsimp only; omega) _).setCell (p := ⟨w.heap.size + 1, 1, none⟩) (by dsimp only; omega) _), (cell_far_block (cell_far_block b0_0 (by dsimp only; omega)) (by dsimp only; omega)), (cell_far_block (cell_far_block b0_1 (by dsimp only; omega)) (by dsimp only; omega)), (cell_far_block (cell_far_block b0_2 (by dsimp only; omega)) (by dsimp only; omega))⟩ | with_reducible exact ⟨(UP.alloc_drew _), (cell_alloc_drew b0_0), (cell_alloc_drew b0_1), (cell_alloc_drew b0_2)⟩ | with_reducible exact ⟨(UP.alloc2_drew _ _), (cell_alloc2_drew b0_0), (cell_alloc2_drew b0_1), (cell_alloc2_drew b0_2)⟩ | (simp only [← World.setCell_drew]; with_reducible exact ⟨((UP.setCell (p := ⟨w.heap.size + 1, 0, none⟩) (by dsimp only; omega) _).setCell (p := ⟨w.heap.size + 1, 1, none⟩) (by dsimp only; omega) _), (cell_far_block (cell_far_block b0_0 (by dsimp only; omega)) (by dsimp only; omega)), (cell_far_block (cell_far_block b0_1 (by dsimp only; omega)) (by dsimp only; omega)), (cell_far_block (cell_far_block b0_2 (by dsimp only; omega)) (by dsimp only; omega))⟩) | go_keep)
        (fail)
    go_wp2_with fail
    simp only [← World.setCell_drew]
    exact end_parts (t' := 3) rfl rfl rfl rfl hl hm HQ hle hme r0 trivial trivial UP (by omega)
end Go.Proofs.Ytjkkeilmnklpcaa
