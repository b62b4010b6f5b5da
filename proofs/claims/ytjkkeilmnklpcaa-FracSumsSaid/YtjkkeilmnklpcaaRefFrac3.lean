/-
  Layer 9, the document's answers: numbers of the machine, signs, products, quotients, sizes.
-/
import Derived.Test.YtjkkeilmnklpcaaRefFrac2
import Derived.Test.YtjkkeilmnklpcaaFracMath3
set_option linter.unusedVariables false
set_option linter.unusedSimpArgs false
namespace Go.Proofs.Ytjkkeilmnklpcaa
open Go.RowKit

theorem bx_ws1 {w : World} {g : Nat} (y : Bx 118 w g [.int .u32 1]) : Ws w (.slice (some ⟨g, 0, none⟩) 1 1) [1] := Blk.ws (l := [1]) y (by intro x hx; simp at hx; subst hx; rw [Wd.B_eq]; omega) (by simp [maxLen])
theorem Fr.mk' {w : World} {u d : Value} {l m : List Nat} {q : Rat} {k : Nat} (s : Bool) (h : Ws w u l) (h' : Ws w d m) (hq : mkRat (Wd.iv s (Wd.val l)) (Wd.val m) = q) (hl : l.length ≤ k) (hm : m.length ≤ k) (h1 : 1 ≤ k) : Fr w (.agg #[.bool s, u, d]) q k := ⟨s, u, d, l, m, rfl, h, h', hq, hl, hm, h1⟩
theorem mkRat_int (z : Int) : mkRat z 1 = (z : Rat) := Rat.ext (mkRat_one z).1 (mkRat_one z).2
theorem u64_conv {n : Int} (h : n < 0) (h2 : -9223372036854775808 ≤ n) : IntKind.u64.wrap (-(n + 1)) = ((-(n + 1)).toNat : Int) := by rw [IntKind.wrap_u64]; omega

set_option maxHeartbeats 1600000 in
theorem ref9_int {n : Int} (hn : -9223372036854775808 ≤ n ∧ n ≤ 9223372036854775807) (w : World) : Calls Try.prog 47 #[.int .i64 n] w (RetQ (n : Rat) w) := by
  have hlen : (Wd.words n.natAbs).length ≤ 2 := Wd.words_64 (by omega)
  by_cases h : n < 0
  · have E : Hid (Wd.val (Wd.words (-(n + 1)).toNat) + Wd.val [1] = n.natAbs) := Lib.hid (by rw [Wd.val_words]; simp [Wd.val]; omega)
    have hlen2 : (Wd.words (-(n + 1)).toNat).length ≤ 2 := Wd.words_64 (by omega)
    have HQ : Hid (mkRat (Wd.iv true (Wd.val (Wd.words n.natAbs))) (Wd.val [1]) = (n : Rat)) := Lib.hid (by rw [Wd.val_words, show Wd.val [1] = 1 from rfl, mkRat_int, Wd.iv_true]; congr 1; omega)
    have k1 : IntKind.i64.wrap (-(n + 1)) = -(n + 1) := IntWalk.i64_in _ (by omega)
    have k2 : IntKind.u64.wrap (-(n + 1)) = ((-(n + 1)).toNat : Int) := u64_conv h (by omega)
    have K2 := Lib.hid k2
    clear k2
    have UP : Up w (w.alloc (.cells #[.bool false, .slice none 0 0, .slice none 0 0] 61)) := (Up.refl w).alloc _
    have r0 := Bx.new 61 w [.bool false, .slice none 0 0, .slice none 0 0]
    go_enter Try.func47, Try.ntmps47
    go_wp2_with fail
    generalize (w.alloc (.cells #[.bool false, .slice none 0 0, .slice none 0 0] 61)) = W at *
    have r0_0 := r0.cell (i := 0) rfl
    have r0_1 := r0.cell (i := 1) rfl
    have r0_2 := r0.cell (i := 2) rfl
    have r0_f0 := r0.free 0
    have r0_f1 := r0.free 1
    have r0_f2 := r0.free 2
    go_wp2_with fail
    ((with_reducible refine (ref_of (-(n + 1)).toNat (by first | exact K2.out | (rw [← K2.out]; first | rfl | (congr 1; omega)) | omega) (by omega) _).mono ?_))
    intro e W1 ret1
    obtain ⟨V1, rfl, a, u1⟩ := ret1.ws
    clear ret1
    replace r0 := r0.up u1
    replace UP := UP.trans u1
    replace r0_0 := r0.cell (i := 0) rfl
    replace r0_1 := r0.cell (i := 1) rfl
    replace r0_2 := r0.cell (i := 2) rfl
    replace r0_f0 := r0.free 0
    replace r0_f1 := r0.free 1
    replace r0_f2 := r0.free 2
    clear u1
    obtain ⟨A1, x1, c1, rfl⟩ := a.shape
    have r0_0a := fun O0 => (cell_alloc (o := O0) r0_0)
    have r0_f0a := fun O0 => (r0.up ((Up.refl W1).alloc O0)).free 0
    have r0_1a := fun O0 => (cell_alloc (o := O0) r0_1)
    have r0_f1a := fun O0 => (r0.up ((Up.refl W1).alloc O0)).free 1
    have r0_2a := fun O0 => (cell_alloc (o := O0) r0_2)
    have r0_f2a := fun O0 => (r0.up ((Up.refl W1).alloc O0)).free 2
    go_wp2_with fail
    clear r0_0a r0_f0a r0_1a r0_f1a r0_2a r0_f2a
    have y1 := Bx.new 118 W1 [.int .u32 1]
    have r0_lt_y1 := r0.lt
    replace a := a.up ((Up.refl W1).alloc (.cells #[.int .u32 1] 118))
    replace r0 := r0.up ((Up.refl W1).alloc (.cells #[.int .u32 1] 118))
    replace UP := UP.trans ((Up.refl W1).alloc (.cells #[.int .u32 1] 118))
    replace r0_0 := r0.cell (i := 0) rfl
    replace r0_1 := r0.cell (i := 1) rfl
    replace r0_2 := r0.cell (i := 2) rfl
    replace r0_f0 := r0.free 0
    replace r0_f1 := r0.free 1
    replace r0_f2 := r0.free 2
    generalize (W1.alloc (.cells #[.int .u32 1] 118)) = W2 at *
    replace r0_0 := r0.cell (i := 0) rfl
    replace r0_1 := r0.cell (i := 1) rfl
    replace r0_2 := r0.cell (i := 2) rfl
    replace r0_f0 := r0.free 0
    replace r0_f1 := r0.free 1
    replace r0_f2 := r0.free 2
    have y1_0 := y1.cell (i := 0) rfl
    ((with_reducible refine (ref_add a (bx_ws1 y1) (by omega) (by simp)).mono ?_))
    intro e W3 ret3
    obtain ⟨V3, rfl, b, u3⟩ := ret3.ws
    clear ret3
    replace a := a.up u3
    replace r0 := r0.up u3
    replace y1 := y1.up u3
    replace UP := UP.trans u3
    replace r0_0 := r0.cell (i := 0) rfl
    replace r0_1 := r0.cell (i := 1) rfl
    replace r0_2 := r0.cell (i := 2) rfl
    replace r0_f0 := r0.free 0
    replace r0_f1 := r0.free 1
    replace r0_f2 := r0.free 2
    replace y1_0 := y1.cell (i := 0) rfl
    clear u3
    rw [E.out] at b
    obtain ⟨A2, x2, c2, rfl⟩ := b.shape
    have r0_0a := fun O0 => (cell_alloc (o := O0) r0_0)
    have r0_f0a := fun O0 => (r0.up ((Up.refl W3).alloc O0)).free 0
    have r0_1a := fun O0 => (cell_alloc (o := O0) r0_1)
    have r0_f1a := fun O0 => (r0.up ((Up.refl W3).alloc O0)).free 1
    have r0_2a := fun O0 => (cell_alloc (o := O0) r0_2)
    have r0_f2a := fun O0 => (r0.up ((Up.refl W3).alloc O0)).free 2
    have y1_0a := fun O0 => (cell_alloc (o := O0) y1_0)
    go_wp2_with fail
    clear r0_0a r0_f0a r0_1a r0_f1a r0_2a r0_f2a y1_0a
    have y2 := Bx.new 118 W3 [.int .u32 1]
    have r0_lt_y2 := r0.lt
    have y1_lt_y2 := y1.lt
    replace a := a.up ((Up.refl W3).alloc (.cells #[.int .u32 1] 118))
    replace b := b.up ((Up.refl W3).alloc (.cells #[.int .u32 1] 118))
    replace r0 := r0.up ((Up.refl W3).alloc (.cells #[.int .u32 1] 118))
    replace y1 := y1.up ((Up.refl W3).alloc (.cells #[.int .u32 1] 118))
    replace UP := UP.trans ((Up.refl W3).alloc (.cells #[.int .u32 1] 118))
    replace r0_0 := r0.cell (i := 0) rfl
    replace r0_1 := r0.cell (i := 1) rfl
    replace r0_2 := r0.cell (i := 2) rfl
    replace r0_f0 := r0.free 0
    replace r0_f1 := r0.free 1
    replace r0_f2 := r0.free 2
    replace y1_0 := y1.cell (i := 0) rfl
    generalize (W3.alloc (.cells #[.int .u32 1] 118)) = W4 at *
    replace r0_0 := r0.cell (i := 0) rfl
    replace r0_1 := r0.cell (i := 1) rfl
    replace r0_2 := r0.cell (i := 2) rfl
    replace r0_f0 := r0.free 0
    replace r0_f1 := r0.free 1
    replace r0_f2 := r0.free 2
    replace y1_0 := y1.cell (i := 0) rfl
    have y2_0 := y2.cell (i := 0) rfl
    ((with_reducible refine (ref9_norm (Fr.mk' (k := 2) true b (bx_ws1 y2) HQ.out (by omega) (by simp) (by omega)) (by omega)).mono ?_))
    rintro e W5 ⟨V5, rfl, q1, u5⟩
    replace a := a.up u5
    replace b := b.up u5
    replace r0 := r0.up u5
    replace y1 := y1.up u5
    replace y2 := y2.up u5
    replace UP := UP.trans u5
    replace r0_0 := r0.cell (i := 0) rfl
    replace r0_1 := r0.cell (i := 1) rfl
    replace r0_2 := r0.cell (i := 2) rfl
    replace r0_f0 := r0.free 0
    replace r0_f1 := r0.free 1
    replace r0_f2 := r0.free 2
    replace y1_0 := y1.cell (i := 0) rfl
    replace y2_0 := y2.cell (i := 0) rfl
    clear u5
    obtain ⟨Xq1, Yq1, rfl, q1, q1d⟩ := q1
    obtain ⟨Aq1, nq1, cq1, rfl⟩ := q1.shape
    obtain ⟨Aq1d, nq1d, cq1d, rfl⟩ := q1d.shape
    go_wp2_with fail
    exact end_rq rfl rfl rfl (Qw.mk (q := (n : Rat)) q1 q1d rfl rfl rfl) r0 trivial trivial trivial UP (by omega)
  · have HQ : Hid (mkRat (Wd.iv false (Wd.val (Wd.words n.natAbs))) (Wd.val [1]) = (n : Rat)) := Lib.hid (by rw [Wd.val_words, show Wd.val [1] = 1 from rfl, mkRat_int, Wd.iv_false]; congr 1; omega)
    have UP : Up w (w.alloc (.cells #[.bool false, .slice none 0 0, .slice none 0 0] 61)) := (Up.refl w).alloc _
    have r0 := Bx.new 61 w [.bool false, .slice none 0 0, .slice none 0 0]
    go_enter Try.func47, Try.ntmps47
    go_wp2_with fail
    generalize (w.alloc (.cells #[.bool false, .slice none 0 0, .slice none 0 0] 61)) = W at *
    have r0_0 := r0.cell (i := 0) rfl
    have r0_1 := r0.cell (i := 1) rfl
    have r0_2 := r0.cell (i := 2) rfl
    have r0_f0 := r0.free 0
    have r0_f1 := r0.free 1
    have r0_f2 := r0.free 2
    go_wp2_with fail
    ((with_reducible refine (ref_of n.natAbs (by first | (rw [IntKind.wrap_u64]; omega) | omega) (by omega) _).mono ?_))
    intro e W1 ret1
    obtain ⟨V1, rfl, a, u1⟩ := ret1.ws
    clear ret1
    replace r0 := r0.up u1
    replace UP := UP.trans u1
    replace r0_0 := r0.cell (i := 0) rfl
    replace r0_1 := r0.cell (i := 1) rfl
    replace r0_2 := r0.cell (i := 2) rfl
    replace r0_f0 := r0.free 0
    replace r0_f1 := r0.free 1
    replace r0_f2 := r0.free 2
    clear u1
    obtain ⟨A1, x1, c1, rfl⟩ := a.shape
    have r0_0a := fun O0 => (cell_alloc (o := O0) r0_0)
    have r0_f0a := fun O0 => (r0.up ((Up.refl W1).alloc O0)).free 0
    have r0_1a := fun O0 => (cell_alloc (o := O0) r0_1)
    have r0_f1a := fun O0 => (r0.up ((Up.refl W1).alloc O0)).free 1
    have r0_2a := fun O0 => (cell_alloc (o := O0) r0_2)
    have r0_f2a := fun O0 => (r0.up ((Up.refl W1).alloc O0)).free 2
    go_wp2_with fail
    clear r0_0a r0_f0a r0_1a r0_f1a r0_2a r0_f2a
    have y2 := Bx.new 118 W1 [.int .u32 1]
    have r0_lt_y2 := r0.lt
    replace a := a.up ((Up.refl W1).alloc (.cells #[.int .u32 1] 118))
    replace r0 := r0.up ((Up.refl W1).alloc (.cells #[.int .u32 1] 118))
    replace UP := UP.trans ((Up.refl W1).alloc (.cells #[.int .u32 1] 118))
    replace r0_0 := r0.cell (i := 0) rfl
    replace r0_1 := r0.cell (i := 1) rfl
    replace r0_2 := r0.cell (i := 2) rfl
    replace r0_f0 := r0.free 0
    replace r0_f1 := r0.free 1
    replace r0_f2 := r0.free 2
    generalize (W1.alloc (.cells #[.int .u32 1] 118)) = W2 at *
    replace r0_0 := r0.cell (i := 0) rfl
    replace r0_1 := r0.cell (i := 1) rfl
    replace r0_2 := r0.cell (i := 2) rfl
    replace r0_f0 := r0.free 0
    replace r0_f1 := r0.free 1
    replace r0_f2 := r0.free 2
    have y2_0 := y2.cell (i := 0) rfl
    ((with_reducible refine (ref9_norm (Fr.mk' (k := 2) false a (bx_ws1 y2) HQ.out (by omega) (by simp) (by omega)) (by omega)).mono ?_))
    rintro e W3 ⟨V3, rfl, q1, u3⟩
    replace a := a.up u3
    replace r0 := r0.up u3
    replace y2 := y2.up u3
    replace UP := UP.trans u3
    replace r0_0 := r0.cell (i := 0) rfl
    replace r0_1 := r0.cell (i := 1) rfl
    replace r0_2 := r0.cell (i := 2) rfl
    replace r0_f0 := r0.free 0
    replace r0_f1 := r0.free 1
    replace r0_f2 := r0.free 2
    replace y2_0 := y2.cell (i := 0) rfl
    clear u3
    obtain ⟨Xq1, Yq1, rfl, q1, q1d⟩ := q1
    obtain ⟨Aq1, nq1, cq1, rfl⟩ := q1.shape
    obtain ⟨Aq1d, nq1d, cq1d, rfl⟩ := q1d.shape
    go_wp2_with fail
    exact end_rq rfl rfl rfl (Qw.mk (q := (n : Rat)) q1 q1d rfl rfl rfl) r0 trivial trivial trivial UP (by omega)

set_option maxHeartbeats 1600000 in
theorem ref9_zero {v : Value} {q : Rat} {w : World} (h : Qw w v q) : Calls Try.prog 55 #[v] w fun e w' => e = .returned (.bool (decide (q = 0))) ∧ Up w w' := by
  obtain ⟨v1, v2, rfl, hl, hm⟩ := h
  obtain ⟨A, c, rfl⟩ := hl.form
  obtain ⟨D, m, d, rfl⟩ := hm.shape
  have HD : Hid ((((Wd.words q.num.natAbs).length : Int) == 0) = decide (q = 0)) := Lib.hid (by
    by_cases h : q = 0
    · rw [decide_eq_true h, h]; exact words_len_zero _ rfl
    · rw [decide_eq_false h]; exact words_len_pos _ (fun e => h (Rat.num_eq_zero.1 (by omega))))
  generalize (Wd.words q.num.natAbs).length = n at *
  clear hl hm
  have UP : Up w (w.alloc (.cells #[.bool (Wd.ngb q.num), .slice A n c, .slice D m d] 61)) := (Up.refl w).alloc _
  have b0 := Bx.new 61 w [.bool (Wd.ngb q.num), .slice A n c, .slice D m d]
  go_enter Try.func55, Try.ntmps55
  go_wp2_with fail
  generalize (w.alloc (.cells #[.bool (Wd.ngb q.num), .slice A n c, .slice D m d] 61)) = W at *
  have b0_0 := b0.cell (i := 0) rfl
  have b0_1 := b0.cell (i := 1) rfl
  have b0_2 := b0.cell (i := 2) rfl
  go_ret
  exact ⟨by rw [← HD.out]; rfl, UP⟩

theorem mul_law (q r : Rat) : mkRat (Wd.iv (!(Wd.ngb q.num == Wd.ngb r.num)) (q.num.natAbs * r.num.natAbs)) (q.den * r.den) = q * r := by
  rw [Rat.mul_def']
  congr 1
  have := Wd.iv_mul (Wd.ngb q.num) (Wd.ngb r.num) q.num.natAbs r.num.natAbs
  rw [Wd.iv_ngb, Wd.iv_ngb] at this
  exact this
theorem quo_law (q r : Rat) : mkRat (Wd.iv (!(Wd.ngb q.num == Wd.ngb r.num)) (q.num.natAbs * r.den)) (q.den * r.num.natAbs) = q / r := by
  by_cases h : r = 0
  · subst h
    simp [Rat.div_def]
  · have h1 : (Wd.ngb q.num == Wd.ngb r.num) = (Wd.ngb (q.num * (r.den : Int)) == Wd.ngb r.num) := by
      have hd := r.den_pos
      have : Wd.ngb (q.num * (r.den : Int)) = Wd.ngb q.num := by
        unfold Wd.ngb
        rw [decide_eq_decide]
        have hp : (0 : Int) < (r.den : Int) := by omega
        constructor
        · intro hh
          rcases Int.lt_or_le q.num 0 with h | h
          · exact h
          · have := Int.mul_nonneg h (Int.le_of_lt hp); omega
        · intro hh
          exact Int.mul_neg_of_neg_of_pos hh hp
      rw [this]
    have h0 : r.num.natAbs ≠ 0 := fun e => h (Rat.num_eq_zero.1 (by omega))
    have := Wd.quo_mk q.num (t := Wd.ngb r.num) h0 q.den_nz r.den_nz
    rw [Wd.iv_ngb, Rat.mkRat_self, Rat.mkRat_self, Int.natAbs_mul, Int.natAbs_natCast] at this
    rw [h1]
    exact this
set_option maxRecDepth 100000 in
set_option maxHeartbeats 3200000 in
theorem ref9_mul {v u : Value} {q r : Rat} {j k : Nat} {w : World} (h : Qw w v q) (h' : Qw w u r) (lj : Wd.Lq q j) (lk : Wd.Lq r k) (hj : j ≤ 40000) (hk : k ≤ 40000) : Calls Try.prog 63 #[v, u] w (RetQ (q * r) w) := by
  have j1 : (Wd.words q.num.natAbs).length ≤ j := lj.1
  have j2 : (Wd.words q.den).length ≤ j := lj.2
  have k1 : (Wd.words r.num.natAbs).length ≤ k := lk.1
  have k2 : (Wd.words r.den).length ≤ k := lk.2
  have m1 := Wd.words_mul_le j1 k1
  have m2 := Wd.words_mul_le j2 k2
  have jp := lj.pos
  have HQ : Hid (mkRat (Wd.iv (!(Wd.ngb q.num == Wd.ngb r.num)) (Wd.val (Wd.words (q.num.natAbs * r.num.natAbs)))) (Wd.val (Wd.words (q.den * r.den))) = q * r) := Lib.hid (by
    rw [Wd.val_words, Wd.val_words]
    exact mul_law q r)
  obtain ⟨v1, v2, rfl, hl, hm⟩ := h
  obtain ⟨v3, v4, rfl, hl', hm'⟩ := h'
  obtain ⟨A, n, c, rfl⟩ := hl.shape
  obtain ⟨D, m, d, rfl⟩ := hm.shape
  obtain ⟨A', n', c', rfl⟩ := hl'.shape
  obtain ⟨D', m', d', rfl⟩ := hm'.shape
  generalize hs : Wd.ngb q.num = s at *
  generalize ht : Wd.ngb r.num = t at *
  clear hs ht lj lk
  have UP : Up w (((w.alloc (.cells #[.bool s, .slice A n c, .slice D m d] 61)).alloc (.cells #[.bool t, .slice A' n' c', .slice D' m' d'] 61)).alloc (.cells #[.bool false, .slice none 0 0, .slice none 0 0] 61)) := (((Up.refl w).alloc _).alloc _).alloc _
  obtain ⟨b0, b1, r0⟩ := bx_three 61 61 61 w [.bool s, .slice A n c, .slice D m d] [.bool t, .slice A' n' c', .slice D' m' d'] [.bool false, .slice none 0 0, .slice none 0 0]
  go_enter Try.func63, Try.ntmps63
  go_wp2_with fail
  generalize (((w.alloc (.cells #[.bool s, .slice A n c, .slice D m d] 61)).alloc (.cells #[.bool t, .slice A' n' c', .slice D' m' d'] 61)).alloc (.cells #[.bool false, .slice none 0 0, .slice none 0 0] 61)) = W at *
  replace hl := hl.up UP
  replace hm := hm.up UP
  replace hl' := hl'.up UP
  replace hm' := hm'.up UP
  have b0_0 := b0.cell (i := 0) rfl
  have b0_1 := b0.cell (i := 1) rfl
  have b0_2 := b0.cell (i := 2) rfl
  have b1_0 := b1.cell (i := 0) rfl
  have b1_1 := b1.cell (i := 1) rfl
  have b1_2 := b1.cell (i := 2) rfl
  have r0_0 := r0.cell (i := 0) rfl
  have r0_1 := r0.cell (i := 1) rfl
  have r0_2 := r0.cell (i := 2) rfl
  replace hl := hl.up (Up.refl W).drew
  replace hm := hm.up (Up.refl W).drew
  replace hl' := hl'.up (Up.refl W).drew
  replace hm' := hm'.up (Up.refl W).drew
  replace b0 := b0.up (Up.refl W).drew
  replace b1 := b1.up (Up.refl W).drew
  replace r0 := r0.up (Up.refl W).drew
  replace UP := UP.trans (Up.refl W).drew
  replace b0_0 := b0.cell (i := 0) rfl
  replace b0_1 := b0.cell (i := 1) rfl
  replace b0_2 := b0.cell (i := 2) rfl
  replace b1_0 := b1.cell (i := 0) rfl
  replace b1_1 := b1.cell (i := 1) rfl
  replace b1_2 := b1.cell (i := 2) rfl
  have r0_0 := r0.cell (i := 0) rfl
  have r0_1 := r0.cell (i := 1) rfl
  have r0_2 := r0.cell (i := 2) rfl
  have r0_f0 := r0.free 0
  have r0_f1 := r0.free 1
  have r0_f2 := r0.free 2
  go_region_held3 (fun w' => Up w w' ∧ w'.cell? ⟨w.heap.size, 0, none⟩ = some (.bool s) ∧ w'.cell? ⟨w.heap.size, 1, none⟩ = some (.slice A n c) ∧ w'.cell? ⟨w.heap.size, 2, none⟩ = some (.slice D m d) ∧ w'.cell? ⟨w.heap.size + 1, 0, none⟩ = some (.bool t) ∧ w'.cell? ⟨w.heap.size + 1, 1, none⟩ = some (.slice A' n' c') ∧ w'.cell? ⟨w.heap.size + 1, 2, none⟩ = some (.slice D' m' d'))
      (first | with_reducible exact ⟨UP, b0_0, b0_1, b0_2, b1_0, b1_1, b1_2⟩ | with_reducible exact ⟨(((UP.setCell (p := ⟨w.heap.size + 1 + 1, 0, none⟩) (by dsimp only; omega) _).setCell (p := ⟨w.heap.size + 1 + 1, 1, none⟩) (by dsimp only; omega) _).setCell (p := ⟨w.heap.size + 1 + 1, 2, none⟩) (by dsimp only; omega) _), (cell_far_block (cell_far_block (cell_far_block b0_0 (by dsimp only; omega)) (by dsimp only; omega)) (by dsimp only; omega)), (cell_far_block (cell_far_block (cell_far_block b0_1 (by dsimp only; omega)) (by dsimp only; omega)) (by dsimp only; omega)), (cell_far_block (cell_far_block (cell_far_block b0_2 (by dsimp only; omega)) (by dsimp only; omega)) (by dsimp only; omega)), (cell_far_block (cell_far_block (cell_far_block b1_0 (by dsimp only; omega)) (by dsimp only; omega)) (by dsimp only; omega)), (cell_far_block (cell_far_block (cell_far_block b1_1 (by dsimp only; omega)) (by dsimp only; omega)) (by dsimp only; omega)), (cell_far_block (cell_far_block (cell_far_block b1_2 (by dsimp only; omega)) (by dsimp only; omega)) (by dsimp only; omega))⟩ | with_reducible exact ⟨(UP.alloc_drew _), (cell_alloc_drew b0_0), (cell_alloc_drew b0_1), (cell_alloc_drew b0_2), (cell_alloc_drew b1_0), (cell_alloc_drew b1_1), (cell_alloc_drew b1_2)⟩ | with_reducible exact ⟨(UP.alloc2_drew _ _), (cell_alloc2_drew b0_0), (cell_alloc2_drew b0_1), (cell_alloc2_drew b0_2), (cell_alloc2_drew b1_0), (cell_alloc2_drew b1_1), (cell_alloc2_drew b1_2)⟩ | (simp only [← World.setCell_drew]; with_reducible exact ⟨(((UP.setCell (p := ⟨w.heap.size + 1 + 1, 0, none⟩) (by dsimp only; omega) _).setCell (p := ⟨w.heap.size + 1 + 1, 1, none⟩) (by dsimp only; omega) _).setCell (p := ⟨w.heap.size + 1 + 1, 2, none⟩) (by dsimp only; omega) _), (cell_far_block (cell_far_block (cell_far_block b0_0 (by dsimp only; omega)) (by dsimp only; omega)) (by dsimp only; omega)), (cell_far_block (cell_far_block (cell_far_block b0_1 (by dsimp only; omega)) (by dsimp only; omega)) (by dsimp only; omega)), (cell_far_block (cell_far_block (cell_far_block b0_2 (by dsimp only; omega)) (by dsimp only; omega)) (by dsimp only; omega)), (cell_far_block (cell_far_block (cell_far_block b1_0 (by dsimp only; omega)) (by dsimp only; omega)) (by dsimp only; omega)), (cell_far_block (cell_far_block (cell_far_block b1_1 (by dsimp only; omega)) (by dsimp only; omega)) (by dsimp only; omega)), (cell_far_block (cell_far_block (cell_far_block b1_2 (by dsimp only; omega)) (by dsimp only; omega)) (by dsimp only; omega))⟩) | go_keep)
      ((first
        | (go_at_call 102
           ((with_reducible refine (ref_mul hl hl' (by omega) (by omega)).mono ?_))
           intro e W1 ret1
           obtain ⟨V1, rfl, p1, u1⟩ := ret1.ws
           clear ret1
           replace hl := hl.up u1
           replace hm := hm.up u1
           replace hl' := hl'.up u1
           replace hm' := hm'.up u1
           try (replace p1 := p1.up u1)
           try (replace p2 := p2.up u1)
           try (replace q1 := q1.up u1)
           replace b0 := b0.up u1
           replace b1 := b1.up u1
           replace r0 := r0.up u1
           replace UP := UP.trans u1
           replace b0_0 := b0.cell (i := 0) rfl
           replace b0_1 := b0.cell (i := 1) rfl
           replace b0_2 := b0.cell (i := 2) rfl
           replace b1_0 := b1.cell (i := 0) rfl
           replace b1_1 := b1.cell (i := 1) rfl
           replace b1_2 := b1.cell (i := 2) rfl
           replace r0_0 := r0.cell (i := 0) rfl
           replace r0_1 := r0.cell (i := 1) rfl
           replace r0_2 := r0.cell (i := 2) rfl
           replace r0_f0 := r0.free 0
           replace r0_f1 := r0.free 1
           replace r0_f2 := r0.free 2
           clear u1
           rw [Wd.val_words, Wd.val_words] at p1
           obtain ⟨B1, x1, f1, rfl⟩ := p1.shape)
        | (go_at_call 102
           ((with_reducible refine (ref_mul hm hm' (by omega) (by omega)).mono ?_))
           intro e W2 ret2
           obtain ⟨V2, rfl, p2, u2⟩ := ret2.ws
           clear ret2
           replace hl := hl.up u2
           replace hm := hm.up u2
           replace hl' := hl'.up u2
           replace hm' := hm'.up u2
           try (replace p1 := p1.up u2)
           try (replace p2 := p2.up u2)
           try (replace q1 := q1.up u2)
           replace b0 := b0.up u2
           replace b1 := b1.up u2
           replace r0 := r0.up u2
           replace UP := UP.trans u2
           replace b0_0 := b0.cell (i := 0) rfl
           replace b0_1 := b0.cell (i := 1) rfl
           replace b0_2 := b0.cell (i := 2) rfl
           replace b1_0 := b1.cell (i := 0) rfl
           replace b1_1 := b1.cell (i := 1) rfl
           replace b1_2 := b1.cell (i := 2) rfl
           replace r0_0 := r0.cell (i := 0) rfl
           replace r0_1 := r0.cell (i := 1) rfl
           replace r0_2 := r0.cell (i := 2) rfl
           replace r0_f0 := r0.free 0
           replace r0_f1 := r0.free 1
           replace r0_f2 := r0.free 2
           clear u2
           rw [Wd.val_words, Wd.val_words] at p2
           obtain ⟨B2, x2, f2, rfl⟩ := p2.shape)
        | (go_at_call 39
           ((with_reducible refine (ref9_norm (Fr.mk' (k := 100000) (!(s == t)) p1 p2 HQ.out (by omega) (by omega) (by omega)) (by omega)).mono ?_))
           rintro e W3 ⟨V3, rfl, q1, u3⟩
           replace hl := hl.up u3
           replace hm := hm.up u3
           replace hl' := hl'.up u3
           replace hm' := hm'.up u3
           try (replace p1 := p1.up u3)
           try (replace p2 := p2.up u3)
           try (replace q1 := q1.up u3)
           replace b0 := b0.up u3
           replace b1 := b1.up u3
           replace r0 := r0.up u3
           replace UP := UP.trans u3
           replace b0_0 := b0.cell (i := 0) rfl
           replace b0_1 := b0.cell (i := 1) rfl
           replace b0_2 := b0.cell (i := 2) rfl
           replace b1_0 := b1.cell (i := 0) rfl
           replace b1_1 := b1.cell (i := 1) rfl
           replace b1_2 := b1.cell (i := 2) rfl
           replace r0_0 := r0.cell (i := 0) rfl
           replace r0_1 := r0.cell (i := 1) rfl
           replace r0_2 := r0.cell (i := 2) rfl
           replace r0_f0 := r0.free 0
           replace r0_f1 := r0.free 1
           replace r0_f2 := r0.free 2
           clear u3
           obtain ⟨Xq1, Yq1, rfl, q1, q1d⟩ := q1
           obtain ⟨Aq1, nq1, cq1, rfl⟩ := q1.shape
           obtain ⟨Aq1d, nq1d, cq1d, rfl⟩ := q1d.shape)))
  all_goals
    go_wp2
    exact end_rq rfl rfl rfl ⟨_, _, rfl, q1, q1d⟩ r0 trivial trivial trivial UP (by omega)
set_option maxRecDepth 100000 in
set_option maxHeartbeats 3200000 in
theorem ref9_quo {v u : Value} {q r : Rat} {j k : Nat} {w : World} (h : Qw w v q) (h' : Qw w u r) (lj : Wd.Lq q j) (lk : Wd.Lq r k) (hj : j ≤ 40000) (hk : k ≤ 40000) : Calls Try.prog 51 #[v, u] w (RetQ (q / r) w) := by
  have j1 : (Wd.words q.num.natAbs).length ≤ j := lj.1
  have j2 : (Wd.words q.den).length ≤ j := lj.2
  have k1 : (Wd.words r.num.natAbs).length ≤ k := lk.1
  have k2 : (Wd.words r.den).length ≤ k := lk.2
  have m1 := Wd.words_mul_le j1 k2
  have m2 := Wd.words_mul_le j2 k1
  have jp := lj.pos
  have HQ : Hid (mkRat (Wd.iv (!(Wd.ngb q.num == Wd.ngb r.num)) (Wd.val (Wd.words (q.num.natAbs * r.den)))) (Wd.val (Wd.words (q.den * r.num.natAbs))) = q / r) := Lib.hid (by
    rw [Wd.val_words, Wd.val_words]
    exact quo_law q r)
  obtain ⟨v1, v2, rfl, hl, hm⟩ := h
  obtain ⟨v3, v4, rfl, hl', hm'⟩ := h'
  obtain ⟨A, n, c, rfl⟩ := hl.shape
  obtain ⟨D, m, d, rfl⟩ := hm.shape
  obtain ⟨A', n', c', rfl⟩ := hl'.shape
  obtain ⟨D', m', d', rfl⟩ := hm'.shape
  generalize hs : Wd.ngb q.num = s at *
  generalize ht : Wd.ngb r.num = t at *
  clear hs ht lj lk
  have UP : Up w (((w.alloc (.cells #[.bool s, .slice A n c, .slice D m d] 61)).alloc (.cells #[.bool t, .slice A' n' c', .slice D' m' d'] 61)).alloc (.cells #[.bool false, .slice none 0 0, .slice none 0 0] 61)) := (((Up.refl w).alloc _).alloc _).alloc _
  obtain ⟨b0, b1, r0⟩ := bx_three 61 61 61 w [.bool s, .slice A n c, .slice D m d] [.bool t, .slice A' n' c', .slice D' m' d'] [.bool false, .slice none 0 0, .slice none 0 0]
  go_enter Try.func51, Try.ntmps51
  go_wp2_with fail
  generalize (((w.alloc (.cells #[.bool s, .slice A n c, .slice D m d] 61)).alloc (.cells #[.bool t, .slice A' n' c', .slice D' m' d'] 61)).alloc (.cells #[.bool false, .slice none 0 0, .slice none 0 0] 61)) = W at *
  replace hl := hl.up UP
  replace hm := hm.up UP
  replace hl' := hl'.up UP
  replace hm' := hm'.up UP
  have b0_0 := b0.cell (i := 0) rfl
  have b0_1 := b0.cell (i := 1) rfl
  have b0_2 := b0.cell (i := 2) rfl
  have b1_0 := b1.cell (i := 0) rfl
  have b1_1 := b1.cell (i := 1) rfl
  have b1_2 := b1.cell (i := 2) rfl
  have r0_0 := r0.cell (i := 0) rfl
  have r0_1 := r0.cell (i := 1) rfl
  have r0_2 := r0.cell (i := 2) rfl
  replace hl := hl.up (Up.refl W).drew
  replace hm := hm.up (Up.refl W).drew
  replace hl' := hl'.up (Up.refl W).drew
  replace hm' := hm'.up (Up.refl W).drew
  replace b0 := b0.up (Up.refl W).drew
  replace b1 := b1.up (Up.refl W).drew
  replace r0 := r0.up (Up.refl W).drew
  replace UP := UP.trans (Up.refl W).drew
  replace b0_0 := b0.cell (i := 0) rfl
  replace b0_1 := b0.cell (i := 1) rfl
  replace b0_2 := b0.cell (i := 2) rfl
  replace b1_0 := b1.cell (i := 0) rfl
  replace b1_1 := b1.cell (i := 1) rfl
  replace b1_2 := b1.cell (i := 2) rfl
  have r0_0 := r0.cell (i := 0) rfl
  have r0_1 := r0.cell (i := 1) rfl
  have r0_2 := r0.cell (i := 2) rfl
  have r0_f0 := r0.free 0
  have r0_f1 := r0.free 1
  have r0_f2 := r0.free 2
  go_region_held3 (fun w' => Up w w' ∧ w'.cell? ⟨w.heap.size, 0, none⟩ = some (.bool s) ∧ w'.cell? ⟨w.heap.size, 1, none⟩ = some (.slice A n c) ∧ w'.cell? ⟨w.heap.size, 2, none⟩ = some (.slice D m d) ∧ w'.cell? ⟨w.heap.size + 1, 0, none⟩ = some (.bool t) ∧ w'.cell? ⟨w.heap.size + 1, 1, none⟩ = some (.slice A' n' c') ∧ w'.cell? ⟨w.heap.size + 1, 2, none⟩ = some (.slice D' m' d'))
      (first | with_reducible exact ⟨UP, b0_0, b0_1, b0_2, b1_0, b1_1, b1_2⟩ | with_reducible exact ⟨(((UP.setCell (p := ⟨w.heap.size + 1 + 1, 0, none⟩) (by dsimp only; omega) _).setCell (p := ⟨w.heap.size + 1 + 1, 1, none⟩) (by dsimp only; omega) _).setCell (p := ⟨w.heap.size + 1 + 1, 2, none⟩) (by dsimp only; omega) _), (cell_far_block (cell_far_block (cell_far_block b0_0 (by dsimp only; omega)) (by dsimp only; omega)) (by dsimp only; omega)), (cell_far_block (cell_far_block (cell_far_block b0_1 (by dsimp only; omega)) (by dsimp only; omega)) (by dsimp only; omega)), (cell_far_block (cell_far_block (cell_far_block b0_2 (by dsimp only; omega)) (by dsimp only; omega)) (by dsimp only; omega)), (cell_far_block (cell_far_block (cell_far_block b1_0 (by dsimp only; omega)) (by dsimp only; omega)) (by dsimp only; omega)), (cell_far_block (cell_far_block (cell_far_block b1_1 (by dsimp only; omega)) (by dsimp only; omega)) (by dsimp only; omega)), (cell_far_block (cell_far_block (cell_far_block b1_2 (by dsimp only; omega)) (by dsimp only; omega)) (by dsimp only; omega))⟩ | with_reducible exact ⟨(UP.alloc_drew _), (cell_alloc_drew b0_0), (cell_alloc_drew b0_1), (cell_alloc_drew b0_2), (cell_alloc_drew b1_0), (cell_alloc_drew b1_1), (cell_alloc_drew b1_2)⟩ | with_reducible exact ⟨(UP.alloc2_drew _ _), (cell_alloc2_drew b0_0), (cell_alloc2_drew b0_1), (cell_alloc2_drew b0_2), (cell_alloc2_drew b1_0), (cell_alloc2_drew b1_1), (cell_alloc2_drew b1_2)⟩ | (simp only [← World.setCell_drew]; with_reducible exact ⟨(((UP.setCell (p := ⟨w.heap.size + 1 + 1, 0, none⟩) (by dsimp only; omega) _).setCell (p := ⟨w.heap.size + 1 + 1, 1, none⟩) (by dsimp only; omega) _).setCell (p := ⟨w.heap.size + 1 + 1, 2, none⟩) (by dsimp only; omega) _), (cell_far_block (cell_far_block (cell_far_block b0_0 (by dsimp only; omega)) (by dsimp only; omega)) (by dsimp only; omega)), (cell_far_block (cell_far_block (cell_far_block b0_1 (by dsimp only; omega)) (by dsimp only; omega)) (by dsimp only; omega)), (cell_far_block (cell_far_block (cell_far_block b0_2 (by dsimp only; omega)) (by dsimp only; omega)) (by dsimp only; omega)), (cell_far_block (cell_far_block (cell_far_block b1_0 (by dsimp only; omega)) (by dsimp only; omega)) (by dsimp only; omega)), (cell_far_block (cell_far_block (cell_far_block b1_1 (by dsimp only; omega)) (by dsimp only; omega)) (by dsimp only; omega)), (cell_far_block (cell_far_block (cell_far_block b1_2 (by dsimp only; omega)) (by dsimp only; omega)) (by dsimp only; omega))⟩) | go_keep)
      ((first
        | (go_at_call 102
           ((with_reducible refine (ref_mul hl hm' (by omega) (by omega)).mono ?_))
           intro e W1 ret1
           obtain ⟨V1, rfl, p1, u1⟩ := ret1.ws
           clear ret1
           replace hl := hl.up u1
           replace hm := hm.up u1
           replace hl' := hl'.up u1
           replace hm' := hm'.up u1
           try (replace p1 := p1.up u1)
           try (replace p2 := p2.up u1)
           try (replace q1 := q1.up u1)
           replace b0 := b0.up u1
           replace b1 := b1.up u1
           replace r0 := r0.up u1
           replace UP := UP.trans u1
           replace b0_0 := b0.cell (i := 0) rfl
           replace b0_1 := b0.cell (i := 1) rfl
           replace b0_2 := b0.cell (i := 2) rfl
           replace b1_0 := b1.cell (i := 0) rfl
           replace b1_1 := b1.cell (i := 1) rfl
           replace b1_2 := b1.cell (i := 2) rfl
           replace r0_0 := r0.cell (i := 0) rfl
           replace r0_1 := r0.cell (i := 1) rfl
           replace r0_2 := r0.cell (i := 2) rfl
           replace r0_f0 := r0.free 0
           replace r0_f1 := r0.free 1
           replace r0_f2 := r0.free 2
           clear u1
           rw [Wd.val_words, Wd.val_words] at p1
           obtain ⟨B1, x1, f1, rfl⟩ := p1.shape)
        | (go_at_call 102
           ((with_reducible refine (ref_mul hm hl' (by omega) (by omega)).mono ?_))
           intro e W2 ret2
           obtain ⟨V2, rfl, p2, u2⟩ := ret2.ws
           clear ret2
           replace hl := hl.up u2
           replace hm := hm.up u2
           replace hl' := hl'.up u2
           replace hm' := hm'.up u2
           try (replace p1 := p1.up u2)
           try (replace p2 := p2.up u2)
           try (replace q1 := q1.up u2)
           replace b0 := b0.up u2
           replace b1 := b1.up u2
           replace r0 := r0.up u2
           replace UP := UP.trans u2
           replace b0_0 := b0.cell (i := 0) rfl
           replace b0_1 := b0.cell (i := 1) rfl
           replace b0_2 := b0.cell (i := 2) rfl
           replace b1_0 := b1.cell (i := 0) rfl
           replace b1_1 := b1.cell (i := 1) rfl
           replace b1_2 := b1.cell (i := 2) rfl
           replace r0_0 := r0.cell (i := 0) rfl
           replace r0_1 := r0.cell (i := 1) rfl
           replace r0_2 := r0.cell (i := 2) rfl
           replace r0_f0 := r0.free 0
           replace r0_f1 := r0.free 1
           replace r0_f2 := r0.free 2
           clear u2
           rw [Wd.val_words, Wd.val_words] at p2
           obtain ⟨B2, x2, f2, rfl⟩ := p2.shape)
        | (go_at_call 39
           ((with_reducible refine (ref9_norm (Fr.mk' (k := 100000) (!(s == t)) p1 p2 HQ.out (by omega) (by omega) (by omega)) (by omega)).mono ?_))
           rintro e W3 ⟨V3, rfl, q1, u3⟩
           replace hl := hl.up u3
           replace hm := hm.up u3
           replace hl' := hl'.up u3
           replace hm' := hm'.up u3
           try (replace p1 := p1.up u3)
           try (replace p2 := p2.up u3)
           try (replace q1 := q1.up u3)
           replace b0 := b0.up u3
           replace b1 := b1.up u3
           replace r0 := r0.up u3
           replace UP := UP.trans u3
           replace b0_0 := b0.cell (i := 0) rfl
           replace b0_1 := b0.cell (i := 1) rfl
           replace b0_2 := b0.cell (i := 2) rfl
           replace b1_0 := b1.cell (i := 0) rfl
           replace b1_1 := b1.cell (i := 1) rfl
           replace b1_2 := b1.cell (i := 2) rfl
           replace r0_0 := r0.cell (i := 0) rfl
           replace r0_1 := r0.cell (i := 1) rfl
           replace r0_2 := r0.cell (i := 2) rfl
           replace r0_f0 := r0.free 0
           replace r0_f1 := r0.free 1
           replace r0_f2 := r0.free 2
           clear u3
           obtain ⟨Xq1, Yq1, rfl, q1, q1d⟩ := q1
           obtain ⟨Aq1, nq1, cq1, rfl⟩ := q1.shape
           obtain ⟨Aq1d, nq1d, cq1d, rfl⟩ := q1d.shape)))
  all_goals
    go_wp2
    exact end_rq rfl rfl rfl ⟨_, _, rfl, q1, q1d⟩ r0 trivial trivial trivial UP (by omega)
end Go.Proofs.Ytjkkeilmnklpcaa
