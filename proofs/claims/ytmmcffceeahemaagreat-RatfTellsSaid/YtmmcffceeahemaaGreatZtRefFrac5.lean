/-
  Layer 9, the document's answers: sums, order.
-/
import Derived.Test.YtmmcffceeahemaaGreatZtRefFracs
import Derived.Test.YtmmcffceeahemaaGreatZtShort
set_option linter.unusedVariables false
set_option linter.unusedSimpArgs false
namespace Go.Proofs.YtmmcffceeahemaaGreat
open Go.RowKit
theorem Ws.ad {w : World} {v : Value} {l : List Nat} (h : Ws w.drew v l) (o : Obj) : Ws (w.alloc o).drew v l := h.up (Up.alloc (w := w.drew) (Up.refl w.drew) o)
set_option maxRecDepth 100000 in
set_option maxHeartbeats 6400000 in
theorem ref9_add {v u : Value} {q r : Rat} {j k : Nat} {w : World} (h : Qw w v q) (h' : Qw w u r) (lj : Wd.Lq q j) (lk : Wd.Lq r k) (hj : j ≤ 4900000) (hk : k ≤ 4900000) : Calls Tryz.prog 111 #[v, u] w (RetQ (q + r) w) := by
 have j1 : (Wd.words q.num.natAbs).length ≤ j := lj.1
 have j2 : (Wd.words q.den).length ≤ j := lj.2
 have k1 : (Wd.words r.num.natAbs).length ≤ k := lk.1
 have k2 : (Wd.words r.den).length ≤ k := lk.2
 have m1 := Wd.words_mul_le j1 k2
 have m2 := Wd.words_mul_le k1 j2
 have m3 := Wd.words_mul_le j2 k2
 have jp := lj.pos
 obtain ⟨v1, v2, rfl, hl, hm⟩ := h
 obtain ⟨v3, v4, rfl, hl', hm'⟩ := h'
 obtain ⟨A, n, c, rfl⟩ := hl.shape
 obtain ⟨D, m, d, rfl⟩ := hm.shape
 obtain ⟨A', n', c', rfl⟩ := hl'.shape
 obtain ⟨D', m', d', rfl⟩ := hm'.shape
 obtain ⟨s, HS⟩ : ∃ s, Hid (Wd.ngb q.num = s) := ⟨_, Lib.hid rfl⟩
 obtain ⟨t, HT⟩ : ∃ s, Hid (Wd.ngb r.num = s) := ⟨_, Lib.hid rfl⟩
 have HZ0 : Wd.iv s (Wd.val (Wd.words (q.num.natAbs * r.den))) + Wd.iv t (Wd.val (Wd.words (r.num.natAbs * q.den))) = q.num * (r.den : Int) + r.num * (q.den : Int) := by
  rw [Wd.val_words, Wd.val_words, ← HS.out, ← HT.out]
  have e1 := Wd.iv_mul (Wd.ngb q.num) false q.num.natAbs r.den
  have e2 := Wd.iv_mul (Wd.ngb r.num) false r.num.natAbs q.den
  rw [Wd.iv_ngb, Wd.iv_false, Bool.bne_false] at e1 e2
  rw [e1, e2]
 have LZ0 : Wd.Lz (q.num * (r.den : Int) + r.num * (q.den : Int)) (max (j + k) (k + j) + 1) := (Wd.Lz.mul (x := q.num) (y := (r.den : Int)) j1 k2).add (Wd.Lz.mul (x := r.num) (y := (q.den : Int)) k1 j2)
 have HQ0 : mkRat (Wd.iv (Wd.ngb (q.num * (r.den : Int) + r.num * (q.den : Int))) (Wd.val (Wd.words (q.num * (r.den : Int) + r.num * (q.den : Int)).natAbs))) (Wd.val (Wd.words (q.den * r.den))) = q + r := by
  rw [Wd.val_words, Wd.val_words, Wd.iv_ngb, ← Rat.add_def']
 generalize q.num * (r.den : Int) + r.num * (q.den : Int) = Z at *
 have HZ := Lib.hid HZ0
 have HQ := Lib.hid HQ0
 have LZ : (Wd.words Z.natAbs).length ≤ max (j + k) (k + j) + 1 := LZ0
 rw [HS.out, HT.out]
 clear lj lk HZ0 HQ0 LZ0
 have UP : Up w (((w.alloc (.cells #[.bool s, .slice A n c, .slice D m d] 24)).alloc (.cells #[.bool t, .slice A' n' c', .slice D' m' d'] 24)).alloc (.cells #[.bool false, .slice none 0 0, .slice none 0 0] 24)) := (((Up.refl w).alloc _).alloc _).alloc _
 obtain ⟨b0, b1, r0⟩ := bx_three 24 24 24 w [.bool s, .slice A n c, .slice D m d] [.bool t, .slice A' n' c', .slice D' m' d'] [.bool false, .slice none 0 0, .slice none 0 0]
 go_enter Tryz.func111, Tryz.ntmps111
 go_wp2_with fail
 generalize (((w.alloc (.cells #[.bool s, .slice A n c, .slice D m d] 24)).alloc (.cells #[.bool t, .slice A' n' c', .slice D' m' d'] 24)).alloc (.cells #[.bool false, .slice none 0 0, .slice none 0 0] 24)) = W at *
 refine li4 UP hl hm hl' hm' ?_
 clear hl hm hl' hm'
 intro hl hm hl' hm'
 obtain ⟨b0_0, b0_1, b0_2⟩ := b0.c3
 obtain ⟨b1_0, b1_1, b1_2⟩ := b1.c3
 obtain ⟨r0_0, r0_1, r0_2⟩ := r0.c3
 have b0_lt_x1 := b0.lt
 have b1_lt_x1 := b1.lt
 have r0_lt_x1 := r0.lt
 have x1_base := UP.size
 revert UP b0 b1 r0 hl hm hl' hm' b0_0 b0_1 b0_2 b1_0
 refine lg12 (Up.refl W).drew ?_
 intro UP b0 b1 r0 hl hm hl' hm' b0_0 b0_1 b0_2 b1_0
 revert b1_1 b1_2 r0_0 r0_1 r0_2
 refine lg5 (Up.refl W).drew ?_
 intro b1_1 b1_2 r0_0 r0_1 r0_2
 have x1 := (Bx.new 134 W [.bool false, .slice none 0 0]).up (Up.refl _).drew
 go_region_held3 (fun w' => Up w w' ∧ w'.cell? ⟨w.heap.size, 0, none⟩ = some (.bool s) ∧ w'.cell? ⟨w.heap.size, 1, none⟩ = some (.slice A n c) ∧ w'.cell? ⟨w.heap.size, 2, none⟩ = some (.slice D m d) ∧ w'.cell? ⟨w.heap.size + 1, 0, none⟩ = some (.bool t) ∧ w'.cell? ⟨w.heap.size + 1, 1, none⟩ = some (.slice A' n' c') ∧ w'.cell? ⟨w.heap.size + 1, 2, none⟩ = some (.slice D' m' d') ∧ w'.cell? ⟨w.heap.size + 1 + 1, 0, none⟩ = some (.bool false) ∧ w'.cell? ⟨w.heap.size + 1 + 1, 1, none⟩ = some (.slice none 0 0) ∧ w'.cell? ⟨w.heap.size + 1 + 1, 2, none⟩ = some (.slice none 0 0))
  (first | with_reducible exact ⟨UP, b0_0, b0_1, b0_2, b1_0, b1_1, b1_2, r0_0, r0_1, r0_2⟩ | with_reducible exact ⟨(UP.alloc_drew _), (cAd b0_0), (cAd b0_1), (cAd b0_2), (cAd b1_0), (cAd b1_1), (cAd b1_2), (cAd r0_0), (cAd r0_1), (cAd r0_2)⟩ | with_reducible exact ⟨(UP.alloc _), (cell_alloc b0_0), (cell_alloc b0_1), (cell_alloc b0_2), (cell_alloc b1_0), (cell_alloc b1_1), (cell_alloc b1_2), (cell_alloc r0_0), (cell_alloc r0_1), (cell_alloc r0_2)⟩ | with_reducible exact ⟨(us (us UP)), (cf (cf b0_0)), (cf (cf b0_1)), (cf (cf b0_2)), (cf (cf b1_0)), (cf (cf b1_1)), (cf (cf b1_2)), (cf (cf r0_0)), (cf (cf r0_1)), (cf (cf r0_2))⟩)
  ((first
    | (go_at_call 125
       ((with_reducible refine (ref_mul hl hm' (by omega) (by omega)).mono ?_))
       intro e W1 ret1
       obtain ⟨V1, rfl, p1, u1⟩ := ret1.ws
       clear ret1
       revert UP b0 b1 r0 hl hm hl' hm' b0_0 b0_1 b0_2 b1_0; refine lg12 u1 ?_; intro UP b0 b1 r0 hl hm hl' hm' b0_0 b0_1 b0_2 b1_0; revert b1_1 b1_2 r0_0 r0_1 r0_2; revert u1; refine lh5 ?_; intro b1_1 b1_2 r0_0 r0_1 r0_2
       obtain ⟨Ap1, np1, cp1, rfl⟩ := p1.shape)
    | (go_at_call 125
       ((with_reducible refine (ref_mul (hl.ad _) (hm'.ad _) (by omega) (by omega)).mono ?_))
       intro e W2 ret2
       obtain ⟨V2, rfl, p1, u2⟩ := ret2.ws
       clear ret2
       revert UP b0 b1 r0 hl hm hl' hm' b0_0 b0_1 b0_2 b1_0; refine lg12 (Up.skip u2) ?_; intro UP b0 b1 r0 hl hm hl' hm' b0_0 b0_1 b0_2 b1_0; revert b1_1 b1_2 r0_0 r0_1 r0_2; refine lg5 (Up.skip u2) ?_; intro b1_1 b1_2 r0_0 r0_1 r0_2
       replace x1 := x1.up u2
       clear u2
       obtain ⟨x1_0, x1_1⟩ := x1.c2
       have x1_f0 := x1.free
       obtain ⟨Ap1, np1, cp1, rfl⟩ := p1.shape)))
 all_goals go_wp2_with fail
 all_goals first
  | (have b0_lt_x1 := b0.lt
     have b1_lt_x1 := b1.lt
     have r0_lt_x1 := r0.lt
     have x1_base := UP.size
     replace x1 := Bx.new 134 W1 [.bool s, .slice Ap1 np1 cp1]
     replace hl := hl.up ((Up.refl W1).alloc (.cells #[.bool s, .slice Ap1 np1 cp1] 134))
     replace hm := hm.up ((Up.refl W1).alloc (.cells #[.bool s, .slice Ap1 np1 cp1] 134))
     replace hl' := hl'.up ((Up.refl W1).alloc (.cells #[.bool s, .slice Ap1 np1 cp1] 134))
     replace hm' := hm'.up ((Up.refl W1).alloc (.cells #[.bool s, .slice Ap1 np1 cp1] 134))
     replace p1 := p1.up ((Up.refl W1).alloc (.cells #[.bool s, .slice Ap1 np1 cp1] 134))
     replace b0 := b0.up ((Up.refl W1).alloc (.cells #[.bool s, .slice Ap1 np1 cp1] 134))
     replace b1 := b1.up ((Up.refl W1).alloc (.cells #[.bool s, .slice Ap1 np1 cp1] 134))
     replace r0 := r0.up ((Up.refl W1).alloc (.cells #[.bool s, .slice Ap1 np1 cp1] 134))
     replace UP := UP.trans ((Up.refl W1).alloc (.cells #[.bool s, .slice Ap1 np1 cp1] 134))
     clear b0_0 b0_1 b0_2 b1_0 b1_1 b1_2 r0_0 r0_1 r0_2
     obtain ⟨b0_0, b0_1, b0_2⟩ := b0.c3
     obtain ⟨b1_0, b1_1, b1_2⟩ := b1.c3
     obtain ⟨r0_0, r0_1, r0_2⟩ := r0.c3
     generalize W1.alloc (.cells #[.bool s, .slice Ap1 np1 cp1] 134) = W3 at *
     generalize W1.heap.size = gx1 at *)
  | (have KW : Kw (W2) ((W2).setCell ⟨W.heap.size, 0, none⟩ (.bool s)) := Kw.store (c := (.bool false)) x1 rfl trivial _
     refine li5 KW hl hm hl' hm' p1 ?_; clear hl hm hl' hm' p1; intro hl hm hl' hm' p1
     replace b0 := b0.fr (W.heap.size) 0 (.bool s)
     replace b1 := b1.fr (W.heap.size) 0 (.bool s)
     replace r0 := r0.fr (W.heap.size) 0 (.bool s)
     replace x1 : Bx 134 ((W2).setCell ⟨W.heap.size, 0, none⟩ (.bool s)) (W.heap.size) [.bool s, .slice none 0 0] := x1.set 0 (.bool s)
     replace UP := UP.setCell (p := ⟨W.heap.size, 0, none⟩) (by dsimp only; omega) (.bool s)
     have KW : Kw (((W2).setCell ⟨W.heap.size, 0, none⟩ (.bool s))) ((((W2).setCell ⟨W.heap.size, 0, none⟩ (.bool s))).setCell ⟨W.heap.size, 1, none⟩ (.slice Ap1 np1 cp1)) := Kw.store (c := (.slice none 0 0)) x1 rfl trivial _
     revert hl hm hl' hm' p1; refine lg5 KW ?_; intro hl hm hl' hm' p1
     replace b0 := b0.fr (W.heap.size) 1 (.slice Ap1 np1 cp1)
     replace b1 := b1.fr (W.heap.size) 1 (.slice Ap1 np1 cp1)
     replace r0 := r0.fr (W.heap.size) 1 (.slice Ap1 np1 cp1)
     replace x1 : Bx 134 ((((W2).setCell ⟨W.heap.size, 0, none⟩ (.bool s))).setCell ⟨W.heap.size, 1, none⟩ (.slice Ap1 np1 cp1)) (W.heap.size) [.bool s, .slice Ap1 np1 cp1] := x1.set 1 (.slice Ap1 np1 cp1)
     replace UP := UP.setCell (p := ⟨W.heap.size, 1, none⟩) (by dsimp only; omega) (.slice Ap1 np1 cp1)
     clear KW
     generalize ((((W2).setCell ⟨W.heap.size, 0, none⟩ (.bool s))).setCell ⟨W.heap.size, 1, none⟩ (.slice Ap1 np1 cp1)) = W3 at *
     generalize W.heap.size = gx1 at *)
 all_goals
  obtain ⟨b0_0, b0_1, b0_2⟩ := b0.c3
  obtain ⟨b1_0, b1_1, b1_2⟩ := b1.c3
  obtain ⟨r0_0, r0_1, r0_2⟩ := r0.c3
  obtain ⟨x1_0, x1_1⟩ := x1.c2
 all_goals
  rw [Wd.val_words, Wd.val_words] at p1
  have b0_lt_x2 := b0.lt
  have b1_lt_x2 := b1.lt
  have r0_lt_x2 := r0.lt
  have x1_lt_x2 := x1.lt
  have x2_base := UP.size
  refine li12 (Up.refl W3).drew hl hm hl' hm' p1 b0 b1 r0 x1 UP b0_0 b0_1 ?_; clear hl hm hl' hm' p1 b0 b1 r0 x1 UP b0_0 b0_1; intro hl hm hl' hm' p1 b0 b1 r0 x1 UP b0_0 b0_1; refine li9 (Up.refl W3).drew b0_2 b1_0 b1_1 b1_2 r0_0 r0_1 r0_2 x1_0 x1_1 ?_; clear b0_2 b1_0 b1_1 b1_2 r0_0 r0_1 r0_2 x1_0 x1_1; intro b0_2 b1_0 b1_1 b1_2 r0_0 r0_1 r0_2 x1_0 x1_1
  have x2 := (Bx.new 134 W3 [.bool false, .slice none 0 0]).up (Up.refl _).drew
  go_region_held3 (fun w' => Up w w' ∧ w'.cell? ⟨w.heap.size, 0, none⟩ = some (.bool s) ∧ w'.cell? ⟨w.heap.size, 1, none⟩ = some (.slice A n c) ∧ w'.cell? ⟨w.heap.size, 2, none⟩ = some (.slice D m d) ∧ w'.cell? ⟨w.heap.size + 1, 0, none⟩ = some (.bool t) ∧ w'.cell? ⟨w.heap.size + 1, 1, none⟩ = some (.slice A' n' c') ∧ w'.cell? ⟨w.heap.size + 1, 2, none⟩ = some (.slice D' m' d') ∧ w'.cell? ⟨w.heap.size + 1 + 1, 0, none⟩ = some (.bool false) ∧ w'.cell? ⟨w.heap.size + 1 + 1, 1, none⟩ = some (.slice none 0 0) ∧ w'.cell? ⟨w.heap.size + 1 + 1, 2, none⟩ = some (.slice none 0 0) ∧ w'.cell? ⟨gx1, 0, none⟩ = some (.bool s) ∧ w'.cell? ⟨gx1, 1, none⟩ = some (.slice Ap1 np1 cp1))
   (first | with_reducible exact ⟨UP, b0_0, b0_1, b0_2, b1_0, b1_1, b1_2, r0_0, r0_1, r0_2, x1_0, x1_1⟩ | with_reducible exact ⟨(UP.alloc_drew _), (cAd b0_0), (cAd b0_1), (cAd b0_2), (cAd b1_0), (cAd b1_1), (cAd b1_2), (cAd r0_0), (cAd r0_1), (cAd r0_2), (cAd x1_0), (cAd x1_1)⟩ | with_reducible exact ⟨(UP.alloc _), (cell_alloc b0_0), (cell_alloc b0_1), (cell_alloc b0_2), (cell_alloc b1_0), (cell_alloc b1_1), (cell_alloc b1_2), (cell_alloc r0_0), (cell_alloc r0_1), (cell_alloc r0_2), (cell_alloc x1_0), (cell_alloc x1_1)⟩ | with_reducible exact ⟨(us (us UP)), (cf (cf b0_0)), (cf (cf b0_1)), (cf (cf b0_2)), (cf (cf b1_0)), (cf (cf b1_1)), (cf (cf b1_2)), (cf (cf r0_0)), (cf (cf r0_1)), (cf (cf r0_2)), (cf (cf x1_0)), (cf (cf x1_1))⟩)
   ((first
     | (go_at_call 125
        ((with_reducible refine (ref_mul hl' hm (by omega) (by omega)).mono ?_))
        intro e W4 ret4
        obtain ⟨V4, rfl, p2, u4⟩ := ret4.ws
        clear ret4
        revert hl hm hl' hm' p1 b0 b1 r0 x1 UP b0_0 b0_1; refine lg12 u4 ?_; intro hl hm hl' hm' p1 b0 b1 r0 x1 UP b0_0 b0_1; revert b0_2 b1_0 b1_1 b1_2 r0_0 r0_1 r0_2 x1_0 x1_1; revert u4; refine lh9 ?_; intro b0_2 b1_0 b1_1 b1_2 r0_0 r0_1 r0_2 x1_0 x1_1
        obtain ⟨Ap2, np2, cp2, rfl⟩ := p2.shape)
     | (go_at_call 125
        ((with_reducible refine (ref_mul (hl'.ad _) (hm.ad _) (by omega) (by omega)).mono ?_))
        intro e W5 ret5
        obtain ⟨V5, rfl, p2, u5⟩ := ret5.ws
        clear ret5
        revert hl hm hl' hm' p1 b0 b1 r0 x1 UP b0_0 b0_1; refine lg12 (Up.skip u5) ?_; intro hl hm hl' hm' p1 b0 b1 r0 x1 UP b0_0 b0_1; revert b0_2 b1_0 b1_1 b1_2 r0_0 r0_1 r0_2 x1_0 x1_1; refine lg9 (Up.skip u5) ?_; intro b0_2 b1_0 b1_1 b1_2 r0_0 r0_1 r0_2 x1_0 x1_1
        replace x2 := x2.up u5
        clear u5
        obtain ⟨x2_0, x2_1⟩ := x2.c2
        have x2_f0 := x2.free
        obtain ⟨Ap2, np2, cp2, rfl⟩ := p2.shape)))
  all_goals go_wp2_with fail
  all_goals first
   | (have b0_lt_x2 := b0.lt
      have b1_lt_x2 := b1.lt
      have r0_lt_x2 := r0.lt
      have x1_lt_x2 := x1.lt
      have x2_base := UP.size
      replace x2 := Bx.new 134 W4 [.bool t, .slice Ap2 np2 cp2]
      replace hl := hl.up ((Up.refl W4).alloc (.cells #[.bool t, .slice Ap2 np2 cp2] 134))
      replace hm := hm.up ((Up.refl W4).alloc (.cells #[.bool t, .slice Ap2 np2 cp2] 134))
      replace hl' := hl'.up ((Up.refl W4).alloc (.cells #[.bool t, .slice Ap2 np2 cp2] 134))
      replace hm' := hm'.up ((Up.refl W4).alloc (.cells #[.bool t, .slice Ap2 np2 cp2] 134))
      replace p1 := p1.up ((Up.refl W4).alloc (.cells #[.bool t, .slice Ap2 np2 cp2] 134))
      replace p2 := p2.up ((Up.refl W4).alloc (.cells #[.bool t, .slice Ap2 np2 cp2] 134))
      replace b0 := b0.up ((Up.refl W4).alloc (.cells #[.bool t, .slice Ap2 np2 cp2] 134))
      replace b1 := b1.up ((Up.refl W4).alloc (.cells #[.bool t, .slice Ap2 np2 cp2] 134))
      replace r0 := r0.up ((Up.refl W4).alloc (.cells #[.bool t, .slice Ap2 np2 cp2] 134))
      replace x1 := x1.up ((Up.refl W4).alloc (.cells #[.bool t, .slice Ap2 np2 cp2] 134))
      replace UP := UP.trans ((Up.refl W4).alloc (.cells #[.bool t, .slice Ap2 np2 cp2] 134))
      clear b0_0 b0_1 b0_2 b1_0 b1_1 b1_2 r0_0 r0_1 r0_2 x1_0 x1_1
      obtain ⟨b0_0, b0_1, b0_2⟩ := b0.c3
      obtain ⟨b1_0, b1_1, b1_2⟩ := b1.c3
      obtain ⟨r0_0, r0_1, r0_2⟩ := r0.c3
      obtain ⟨x1_0, x1_1⟩ := x1.c2
      generalize W4.alloc (.cells #[.bool t, .slice Ap2 np2 cp2] 134) = W6 at *
      generalize W4.heap.size = gx2 at *)
   | (have KW : Kw (W5) ((W5).setCell ⟨W3.heap.size, 0, none⟩ (.bool t)) := Kw.store (c := (.bool false)) x2 rfl trivial _
      refine li6 KW hl hm hl' hm' p1 p2 ?_; clear hl hm hl' hm' p1 p2; intro hl hm hl' hm' p1 p2
      replace b0 := b0.fr (W3.heap.size) 0 (.bool t)
      replace b1 := b1.fr (W3.heap.size) 0 (.bool t)
      replace r0 := r0.fr (W3.heap.size) 0 (.bool t)
      replace x1 := x1.fr (W3.heap.size) 0 (.bool t)
      replace x2 : Bx 134 ((W5).setCell ⟨W3.heap.size, 0, none⟩ (.bool t)) (W3.heap.size) [.bool t, .slice none 0 0] := x2.set 0 (.bool t)
      replace UP := UP.setCell (p := ⟨W3.heap.size, 0, none⟩) (by dsimp only; omega) (.bool t)
      have KW : Kw (((W5).setCell ⟨W3.heap.size, 0, none⟩ (.bool t))) ((((W5).setCell ⟨W3.heap.size, 0, none⟩ (.bool t))).setCell ⟨W3.heap.size, 1, none⟩ (.slice Ap2 np2 cp2)) := Kw.store (c := (.slice none 0 0)) x2 rfl trivial _
      revert hl hm hl' hm' p1 p2; refine lg6 KW ?_; intro hl hm hl' hm' p1 p2
      replace b0 := b0.fr (W3.heap.size) 1 (.slice Ap2 np2 cp2)
      replace b1 := b1.fr (W3.heap.size) 1 (.slice Ap2 np2 cp2)
      replace r0 := r0.fr (W3.heap.size) 1 (.slice Ap2 np2 cp2)
      replace x1 := x1.fr (W3.heap.size) 1 (.slice Ap2 np2 cp2)
      replace x2 : Bx 134 ((((W5).setCell ⟨W3.heap.size, 0, none⟩ (.bool t))).setCell ⟨W3.heap.size, 1, none⟩ (.slice Ap2 np2 cp2)) (W3.heap.size) [.bool t, .slice Ap2 np2 cp2] := x2.set 1 (.slice Ap2 np2 cp2)
      replace UP := UP.setCell (p := ⟨W3.heap.size, 1, none⟩) (by dsimp only; omega) (.slice Ap2 np2 cp2)
      clear KW
      generalize ((((W5).setCell ⟨W3.heap.size, 0, none⟩ (.bool t))).setCell ⟨W3.heap.size, 1, none⟩ (.slice Ap2 np2 cp2)) = W6 at *
      generalize W3.heap.size = gx2 at *)
  all_goals
   obtain ⟨b0_0, b0_1, b0_2⟩ := b0.c3
   obtain ⟨b1_0, b1_1, b1_2⟩ := b1.c3
   obtain ⟨r0_0, r0_1, r0_2⟩ := r0.c3
   obtain ⟨x1_0, x1_1⟩ := x1.c2
   obtain ⟨x2_0, x2_1⟩ := x2.c2
  all_goals
   rw [Wd.val_words, Wd.val_words] at p2
   go_wp2_with fail
   ((with_reducible refine (ref8_add (Wh.mk s p1 (k := 90000000) (by omega)) (Wh.mk t p2 (k := 90000000) (by omega)) (by omega) (by omega)).mono ?_))
   rintro e W7 ⟨V7, rfl, z1, u7⟩
   refine li12 u7 hl hm hl' hm' p1 p2 b0 b1 r0 x1 x2 UP ?_; clear hl hm hl' hm' p1 p2 b0 b1 r0 x1 x2 UP; intro hl hm hl' hm' p1 p2 b0 b1 r0 x1 x2 UP; refine li12 u7 b0_0 b0_1 b0_2 b1_0 b1_1 b1_2 r0_0 r0_1 r0_2 x1_0 x1_1 x2_0 ?_; clear b0_0 b0_1 b0_2 b1_0 b1_1 b1_2 r0_0 r0_1 r0_2 x1_0 x1_1 x2_0; intro b0_0 b0_1 b0_2 b1_0 b1_1 b1_2 r0_0 r0_1 r0_2 x1_0 x1_1 x2_0; refine li1 u7 x2_1 ?_; clear x2_1 u7; intro x2_1
   rw [HZ.out] at z1
   obtain ⟨Xz1, rfl, z1⟩ := z1
   obtain ⟨Az1, nz1, cz1, rfl⟩ := z1.shape
   have b0_0a := cA b0_0
   have b0_1a := cA b0_1
   have b0_2a := cA b0_2
   have b1_0a := cA b1_0
   have b1_1a := cA b1_1
   have b1_2a := cA b1_2
   have r0_0a := cA r0_0
   have r0_1a := cA r0_1
   have r0_2a := cA r0_2
   have x1_0a := cA x1_0
   have x1_1a := cA x1_1
   have x2_0a := cA x2_0
   have x2_1a := cA x2_1
   go_wp2_with fail
   clear b0_0a b0_1a b0_2a b1_0a b1_1a b1_2a r0_0a r0_1a r0_2a x1_0a x1_1a x2_0a x2_1a
   have x3 := Bx.new 134 W7 [.bool (Wd.ngb Z), .slice Az1 nz1 cz1]
   have b0_lt_x3 := b0.lt
   have b1_lt_x3 := b1.lt
   have r0_lt_x3 := r0.lt
   have x1_lt_x3 := x1.lt
   have x2_lt_x3 := x2.lt
   have nu := ((Up.refl W7).alloc (.cells #[.bool (Wd.ngb Z), .slice Az1 nz1 cz1] 134))
   revert hl hm hl' hm' p1 p2 b0 b1 r0 x1 x2 z1; refine lg12 nu ?_; intro hl hm hl' hm' p1 p2 b0 b1 r0 x1 x2 z1; revert UP; revert nu; refine lh1 ?_; intro UP
   generalize (W7.alloc (.cells #[.bool (Wd.ngb Z), .slice Az1 nz1 cz1] 134)) = W8 at *
   clear b0_0 b0_1 b0_2 b1_0 b1_1 b1_2 r0_0 r0_1 r0_2 x1_0 x1_1 x2_0 x2_1
   obtain ⟨b0_0, b0_1, b0_2⟩ := b0.c3
   obtain ⟨b1_0, b1_1, b1_2⟩ := b1.c3
   obtain ⟨r0_0, r0_1, r0_2⟩ := r0.c3
   obtain ⟨x1_0, x1_1⟩ := x1.c2
   obtain ⟨x2_0, x2_1⟩ := x2.c2
   obtain ⟨x3_0, x3_1⟩ := x3.c2
   clear x1_0 x1_1 x2_0 x2_1 x3_0 x3_1; revert hl hm hl' hm' p1 p2 b0 b1 r0 x1 x2 z1; refine lg12 (Up.refl W8).drew ?_; intro hl hm hl' hm' p1 p2 b0 b1 r0 x1 x2 z1; revert x3 UP b0_0 b0_1 b0_2 b1_0 b1_1 b1_2; refine lg8 (Up.refl W8).drew ?_; intro x3 UP b0_0 b0_1 b0_2 b1_0 b1_1 b1_2
   obtain ⟨r0_0, r0_1, r0_2⟩ := r0.c3
   have r0_f0 := r0.free
   obtain ⟨x1_0, x1_1⟩ := x1.c2
   obtain ⟨x2_0, x2_1⟩ := x2.c2
   obtain ⟨x3_0, x3_1⟩ := x3.c2
   go_region_held3 (fun w' => Up w w' ∧ w'.cell? ⟨w.heap.size, 0, none⟩ = some (.bool s) ∧ w'.cell? ⟨w.heap.size, 1, none⟩ = some (.slice A n c) ∧ w'.cell? ⟨w.heap.size, 2, none⟩ = some (.slice D m d) ∧ w'.cell? ⟨w.heap.size + 1, 0, none⟩ = some (.bool t) ∧ w'.cell? ⟨w.heap.size + 1, 1, none⟩ = some (.slice A' n' c') ∧ w'.cell? ⟨w.heap.size + 1, 2, none⟩ = some (.slice D' m' d') ∧ w'.cell? ⟨gx1, 0, none⟩ = some (.bool s) ∧ w'.cell? ⟨gx1, 1, none⟩ = some (.slice Ap1 np1 cp1) ∧ w'.cell? ⟨gx2, 0, none⟩ = some (.bool t) ∧ w'.cell? ⟨gx2, 1, none⟩ = some (.slice Ap2 np2 cp2) ∧ w'.cell? ⟨W7.heap.size, 0, none⟩ = some (.bool (Wd.ngb Z)) ∧ w'.cell? ⟨W7.heap.size, 1, none⟩ = some (.slice Az1 nz1 cz1))
    (first | with_reducible exact ⟨UP, b0_0, b0_1, b0_2, b1_0, b1_1, b1_2, x1_0, x1_1, x2_0, x2_1, x3_0, x3_1⟩ | with_reducible exact ⟨(UP.alloc_drew _), (cAd b0_0), (cAd b0_1), (cAd b0_2), (cAd b1_0), (cAd b1_1), (cAd b1_2), (cAd x1_0), (cAd x1_1), (cAd x2_0), (cAd x2_1), (cAd x3_0), (cAd x3_1)⟩ | with_reducible exact ⟨(UP.alloc2_drew _ _), (cAe b0_0), (cAe b0_1), (cAe b0_2), (cAe b1_0), (cAe b1_1), (cAe b1_2), (cAe x1_0), (cAe x1_1), (cAe x2_0), (cAe x2_1), (cAe x3_0), (cAe x3_1)⟩ | ((try simp only [← World.setCell_drew]); first | with_reducible exact ⟨(us (us (us UP))), (cf (cf (cf b0_0))), (cf (cf (cf b0_1))), (cf (cf (cf b0_2))), (cf (cf (cf b1_0))), (cf (cf (cf b1_1))), (cf (cf (cf b1_2))), (cf (cf (cf x1_0))), (cf (cf (cf x1_1))), (cf (cf (cf x2_0))), (cf (cf (cf x2_1))), (cf (cf (cf x3_0))), (cf (cf (cf x3_1)))⟩) | go_keep)
    ((first
      | (go_at_call 125
         ((with_reducible refine (ref_mul hm hm' (by omega) (by omega)).mono ?_))
         intro e W9 ret9
         obtain ⟨V9, rfl, p3, u9⟩ := ret9.ws
         clear ret9
         clear x1_0 x1_1 x2_0 x2_1 x3_0 x3_1; revert hl hm hl' hm' p1 p2 b0 b1 r0 x1 x2 z1; refine lg12 u9 ?_; intro hl hm hl' hm' p1 p2 b0 b1 r0 x1 x2 z1; revert x3 UP b0_0 b0_1 b0_2 b1_0 b1_1 b1_2 r0_0 r0_1 r0_2; refine lg11 u9 ?_; intro x3 UP b0_0 b0_1 b0_2 b1_0 b1_1 b1_2 r0_0 r0_1 r0_2
         try (replace p3 := p3.up u9)
         try (replace q1 := q1.up u9)
         replace r0_f0 := r0.free
         obtain ⟨x1_0, x1_1⟩ := x1.c2
         obtain ⟨x2_0, x2_1⟩ := x2.c2
         obtain ⟨x3_0, x3_1⟩ := x3.c2
         clear u9
         rw [Wd.val_words, Wd.val_words] at p3
         obtain ⟨B1, y1, f1, rfl⟩ := p3.shape)
      | (go_at_call 24
         ((with_reducible refine (ref9_norm (Fr.mk' (k := 10000000) (Wd.ngb Z) z1 p3 HQ.out (by omega) (by omega) (by omega)) (by omega)).mono ?_))
         rintro e W10 ⟨V10, rfl, q1, u10⟩
         clear x1_0 x1_1 x2_0 x2_1 x3_0 x3_1; revert hl hm hl' hm' p1 p2 b0 b1 r0 x1 x2 z1; refine lg12 u10 ?_; intro hl hm hl' hm' p1 p2 b0 b1 r0 x1 x2 z1; revert x3 UP b0_0 b0_1 b0_2 b1_0 b1_1 b1_2 r0_0 r0_1 r0_2; refine lg11 u10 ?_; intro x3 UP b0_0 b0_1 b0_2 b1_0 b1_1 b1_2 r0_0 r0_1 r0_2
         try (replace p3 := p3.up u10)
         try (replace q1 := q1.up u10)
         replace r0_f0 := r0.free
         obtain ⟨x1_0, x1_1⟩ := x1.c2
         obtain ⟨x2_0, x2_1⟩ := x2.c2
         obtain ⟨x3_0, x3_1⟩ := x3.c2
         clear u10
         obtain ⟨Xq1, Yq1, rfl, q1, q1d⟩ := q1
         obtain ⟨Aq1, nq1, cq1, rfl⟩ := q1.shape
         obtain ⟨Aq1d, nq1d, cq1d, rfl⟩ := q1d.shape)))
   all_goals
    go_wp2
    exact end_rq rfl rfl rfl ⟨_, _, rfl, q1, q1d⟩ r0 trivial trivial trivial UP (by omega)
end Go.Proofs.YtmmcffceeahemaaGreat
