/-
  Layers 8 and 9, the document's answers: whole numbers with a sign; the right fraction.
  Layer 9, the document's answers: the right fraction, products, quotients.
  Layer 9, the document's answers: numbers of the machine, signs, products, quotients, sizes.
-/
import Derived.Test.YtmmcffceeahemaaGreatZtFracLow
import Derived.Test.YtmmcffceeahemaaGreatZtLowRefs
import Derived.Test.YtmmcffceeahemaaGreatZtLowRefQuot
import Derived.Test.YtmmcffceeahemaaGreatZtPlain
import Derived.Test.YtmmcffceeahemaaGreatZtShort
set_option linter.unusedVariables false
set_option linter.unusedSimpArgs false
namespace Go.Proofs.YtmmcffceeahemaaGreat
open Go.RowKit
theorem agg_rwhole (w : World) : (isAgg 134).run Tryz.prog w = .ok true w := by kernel_rfl
theorem size_rwhole (w : World) : (sizeOf 134).run Tryz.prog w = .ok 2 w := by kernel_rfl
theorem agg_rfrac_ (w : World) : (isAgg 24).run Tryz.prog w = .ok true w := by kernel_rfl
theorem size_rfrac_ (w : World) : (sizeOf 24).run Tryz.prog w = .ok 3 w := by kernel_rfl
theorem z_stored {w0 w : World} {T : TypeId} {g : Nat} {z : Int} {s : Bool} {u p q : Value} (h : Zw w (.agg #[.bool s, u]) z) (r : Bx T w g [p, q]) (np : NoWord p) (nq : NoWord q) (hu : Up w0 w) (hg : w0.heap.size ≤ g) :
 Bx T ((w.setCell ⟨g, 0, none⟩ (.bool s)).setCell ⟨g, 1, none⟩ u) g [.bool s, u] ∧ Zw ((w.setCell ⟨g, 0, none⟩ (.bool s)).setCell ⟨g, 1, none⟩ u) (.agg #[.bool s, u]) z ∧ Up w0 ((w.setCell ⟨g, 0, none⟩ (.bool s)).setCell ⟨g, 1, none⟩ u) := by
 have r1 : Bx T (w.setCell ⟨g, 0, none⟩ (.bool s)) g [.bool s, q] := r.set 0 _
 have r2 : Bx T ((w.setCell ⟨g, 0, none⟩ (.bool s)).setCell ⟨g, 1, none⟩ u) g [.bool s, u] := r1.set 1 _
 have k1 := (Kw.store (i := 0) (c := p) r rfl np (.bool s)).trans (Kw.store (i := 1) (c := q) r1 rfl nq u)
 exact ⟨r2, h.kw k1, (hu.setCell (p := ⟨g, 0, none⟩) hg _).setCell (p := ⟨g, 1, none⟩) hg _⟩
theorem end_rz {fn : Func} {a : Act} {w0 w : World} {t : Tmp} {g : Nat} {z : Int} {s : Bool} {u p q : Value} (hres : fn.results = #[.cell t 134]) (ht : a.tmps.getD t undef = .pointer (some ⟨g, 0, none⟩)) (hd : a.defers = [])
 (h : Zw w (.agg #[.bool s, u]) z) (r : Bx 134 w g [p, q]) (np : NoWord p) (nq : NoWord q) (hu : Up w0 w) (hg : w0.heap.size ≤ g) :
 bodyPost Tryz.prog fn (RetZ z w0) .ret a ((w.setCell ⟨g, 0, none⟩ (.bool s)).setCell ⟨g, 1, none⟩ u) := by
 obtain ⟨r2, h2, u2⟩ := z_stored h r np nq hu hg
 exact bodyPost_ret (run_res_cell hres ht agg_rwhole size_rwhole r2 rfl) hd ⟨_, rfl, h2, u2⟩
theorem end_rq {fn : Func} {a : Act} {w0 w : World} {t : Tmp} {g : Nat} {q : Rat} {s : Bool} {u d p1 p2 p3 : Value} (hres : fn.results = #[.cell t 24]) (ht : a.tmps.getD t undef = .pointer (some ⟨g, 0, none⟩)) (hd : a.defers = [])
 (h : Qw w (.agg #[.bool s, u, d]) q) (r : Bx 24 w g [p1, p2, p3]) (n1 : NoWord p1) (n2 : NoWord p2) (n3 : NoWord p3) (hu : Up w0 w) (hg : w0.heap.size ≤ g) :
 bodyPost Tryz.prog fn (RetQ q w0) .ret a (((w.setCell ⟨g, 0, none⟩ (.bool s)).setCell ⟨g, 1, none⟩ u).setCell ⟨g, 2, none⟩ d) := by
 obtain ⟨r3, h3, u3⟩ := q_stored h r n1 n2 n3 hu hg
 exact bodyPost_ret (run_res_cell hres ht agg_rfrac_ size_rfrac_ r3 rfl) hd ⟨_, rfl, h3, u3⟩
set_option maxHeartbeats 1600000 in
theorem ref8_norm {v : Value} {z : Int} {k : Nat} {w : World} (h : Wh w v z k) (hk : k ≤ 100000000) : Calls Tryz.prog 123 #[v] w (RetZ z w) := by
 obtain ⟨s, u, l, rfl, hl, hz, hle⟩ := h
 have hlen := Nat.le_trans (Wd.words_val_length hl.ok) hle
 have HN := Lib.hid (Wd.ngb_words s (Wd.val l))
 obtain ⟨A, c, rfl⟩ := hl.form
 subst hz
 cases s
 · skip
   have UP : Up w ((w.alloc (.cells #[.bool false, .slice A l.length c] 134)).alloc (.cells #[.bool false, .slice none 0 0] 134)) := ((Up.refl w).alloc _).alloc _
   obtain ⟨b0, r0⟩ := bx_two 134 134 w [.bool false, .slice A l.length c] [.bool false, .slice none 0 0]
   go_enter Tryz.func123, Tryz.ntmps123
   go_wp2_with fail
   generalize ((w.alloc (.cells #[.bool false, .slice A l.length c] 134)).alloc (.cells #[.bool false, .slice none 0 0] 134)) = W at *
   replace hl := hl.up UP
   obtain ⟨b0_0, b0_1⟩ := b0.c2
   obtain ⟨r0_0, r0_1⟩ := r0.c2
   have r0_f0 := r0.free
   go_wp2_with fail
   ((with_reducible refine (ref_norm hl (by omega)).mono ?_))
   intro e W1 ret1
   obtain ⟨V1, rfl, n1, u1⟩ := ret1.ws
   clear ret1
   revert UP b0 r0 hl b0_0 b0_1 r0_0 r0_1; refine lg8 u1 ?_; intro UP b0 r0 hl b0_0 b0_1 r0_0 r0_1
   replace r0_f0 := r0.free
   clear u1
   obtain ⟨A1, c1, rfl⟩ := n1.form
   generalize hkk : (Wd.words (Wd.val l)).length = kk at *
   have HKK := Lib.hid hkk
   clear hkk
   go_wp2_with fail
   exact end_rz rfl rfl rfl (Zw.mk n1 (by rw [HN.out]; rfl) (Wd.iv_abs _ _)) r0 trivial trivial UP (by omega)
 · skip
   have UP : Up w ((w.alloc (.cells #[.bool true, .slice A l.length c] 134)).alloc (.cells #[.bool false, .slice none 0 0] 134)) := ((Up.refl w).alloc _).alloc _
   obtain ⟨b0, r0⟩ := bx_two 134 134 w [.bool true, .slice A l.length c] [.bool false, .slice none 0 0]
   go_enter Tryz.func123, Tryz.ntmps123
   go_wp2_with fail
   generalize ((w.alloc (.cells #[.bool true, .slice A l.length c] 134)).alloc (.cells #[.bool false, .slice none 0 0] 134)) = W at *
   replace hl := hl.up UP
   obtain ⟨b0_0, b0_1⟩ := b0.c2
   obtain ⟨r0_0, r0_1⟩ := r0.c2
   have r0_f0 := r0.free
   go_wp2_with fail
   ((with_reducible refine (ref_norm hl (by omega)).mono ?_))
   intro e W1 ret1
   obtain ⟨V1, rfl, n1, u1⟩ := ret1.ws
   clear ret1
   revert UP b0 r0 hl b0_0 b0_1 r0_0 r0_1; refine lg8 u1 ?_; intro UP b0 r0 hl b0_0 b0_1 r0_0 r0_1
   replace r0_f0 := r0.free
   clear u1
   obtain ⟨A1, c1, rfl⟩ := n1.form
   generalize hkk : (Wd.words (Wd.val l)).length = kk at *
   have HKK := Lib.hid hkk
   clear hkk
   go_wp2_with fail
   exact end_rz rfl rfl rfl (Zw.mk n1 (by rw [HN.out]; rfl) (Wd.iv_abs _ _)) r0 trivial trivial UP (by omega)
theorem sub_len {a b k : Nat} (ha : (Wd.words a).length ≤ k) : (Wd.words (a - b)).length ≤ k := Nat.le_trans (Wd.words_mono (Nat.sub_le _ _)) ha
set_option maxRecDepth 100000 in
set_option maxHeartbeats 6400000 in
theorem ref8_add {v u : Value} {z y : Int} {j k : Nat} {w : World} (h : Wh w v z j) (h' : Wh w u y k) (hj : j ≤ 90000000) (hk : k ≤ 90000000) : Calls Tryz.prog 153 #[v, u] w (RetZ (z + y) w) := by
 obtain ⟨s, v1, l, rfl, hl, hz, hle⟩ := h
 obtain ⟨t, v2, m, rfl, hm, hy, hme⟩ := h'
 have w1 := Nat.le_trans (Wd.words_val_length hl.ok) (show l.length ≤ 90000000 by omega)
 have w2 := Nat.le_trans (Wd.words_val_length hm.ok) (show m.length ≤ 90000000 by omega)
 have hlen := Wd.words_add_le1 w1 w2
 have hs1 := sub_len (b := Wd.val m) w1
 have hs2 := sub_len (b := Wd.val l) w2
 obtain ⟨A, c, rfl⟩ := hl.form
 obtain ⟨D, d, rfl⟩ := hm.form
 subst hz hy
 cases s <;> cases t
 · rw [← Wd.iv_add]
   have UP : Up w (((w.alloc (.cells #[.bool false, .slice A l.length c] 134)).alloc (.cells #[.bool false, .slice D m.length d] 134)).alloc (.cells #[.bool false, .slice none 0 0] 134)) := (((Up.refl w).alloc _).alloc _).alloc _
   obtain ⟨b0, b1, r0⟩ := bx_three 134 134 134 w [.bool false, .slice A l.length c] [.bool false, .slice D m.length d] [.bool false, .slice none 0 0]
   go_enter Tryz.func153, Tryz.ntmps153
   go_wp2_with fail
   generalize (((w.alloc (.cells #[.bool false, .slice A l.length c] 134)).alloc (.cells #[.bool false, .slice D m.length d] 134)).alloc (.cells #[.bool false, .slice none 0 0] 134)) = W at *
   replace hl := hl.up UP
   replace hm := hm.up UP
   obtain ⟨b0_0, b0_1⟩ := b0.c2
   obtain ⟨b1_0, b1_1⟩ := b1.c2
   obtain ⟨r0_0, r0_1⟩ := r0.c2
   revert UP b0 b1 r0 hl hm b0_0 b0_1 b1_0 b1_1; refine lg10 (Up.refl W).drew ?_; intro UP b0 b1 r0 hl hm b0_0 b0_1 b1_0 b1_1
   obtain ⟨r0_0, r0_1⟩ := r0.c2
   have r0_f0 := r0.free
   go_region_held3 (fun w' => Up w w' ∧ w'.cell? ⟨w.heap.size, 0, none⟩ = some (.bool false) ∧ w'.cell? ⟨w.heap.size, 1, none⟩ = some (.slice A l.length c) ∧ w'.cell? ⟨w.heap.size + 1, 0, none⟩ = some (.bool false) ∧ w'.cell? ⟨w.heap.size + 1, 1, none⟩ = some (.slice D m.length d))
    (first | with_reducible exact ⟨UP, b0_0, b0_1, b1_0, b1_1⟩ | with_reducible exact ⟨(UP.alloc_drew _), (cAd b0_0), (cAd b0_1), (cAd b1_0), (cAd b1_1)⟩ | with_reducible exact ⟨(UP.alloc2_drew _ _), (cAe b0_0), (cAe b0_1), (cAe b1_0), (cAe b1_1)⟩ | ((try simp only [← World.setCell_drew]); first | with_reducible exact ⟨(us (us UP)), (cf (cf b0_0)), (cf (cf b0_1)), (cf (cf b1_0)), (cf (cf b1_1))⟩) | go_keep)
    ((first
      | (go_at_call 131
         ((with_reducible refine (ref_add hl hm (by omega) (by omega)).mono ?_))
         intro e W1 ret1
         obtain ⟨V1, rfl, n1, u1⟩ := ret1.ws
         clear ret1
         revert UP b0 b1 r0 hl hm b0_0 b0_1 b1_0 b1_1 r0_0 r0_1; refine lg12 u1 ?_; intro UP b0 b1 r0 hl hm b0_0 b0_1 b1_0 b1_1 r0_0 r0_1
         try (replace n1 := n1.up u1)
         try (replace z1 := z1.up u1)
         replace r0_f0 := r0.free
         clear u1
         obtain ⟨A1, k1, c1, rfl⟩ := n1.shape)
      | (go_at_call 123
         ((with_reducible refine (ref8_norm (Wh.mk false n1 (k := 100000000) (by omega)) (by omega)).mono ?_))
         rintro e W2 ⟨V2, rfl, z1, u2⟩
         revert UP b0 b1 r0 hl hm b0_0 b0_1 b1_0 b1_1 r0_0 r0_1; refine lg12 u2 ?_; intro UP b0 b1 r0 hl hm b0_0 b0_1 b1_0 b1_1 r0_0 r0_1
         try (replace n1 := n1.up u2)
         try (replace z1 := z1.up u2)
         replace r0_f0 := r0.free
         clear u2
         rw [Wd.val_words] at z1
         obtain ⟨Xz1, rfl, z1⟩ := z1
         obtain ⟨Az1, nz1, cz1, rfl⟩ := z1.shape)))
   all_goals
    go_wp2
    exact end_rz rfl rfl rfl ⟨_, rfl, z1⟩ r0 trivial trivial UP (by omega)
 · rw [← Wd.iv_gap false true _ _ rfl]
   by_cases hlt : Wd.val l < Wd.val m
   · rw [if_pos hlt, Wd.gapN_lt hlt]
     have HC := Lib.hid (Wd.cmpI_lt hlt)
     have HLE := Lib.hid (Nat.le_of_lt hlt)
     clear hlt
     have UP : Up w (((w.alloc (.cells #[.bool false, .slice A l.length c] 134)).alloc (.cells #[.bool true, .slice D m.length d] 134)).alloc (.cells #[.bool false, .slice none 0 0] 134)) := (((Up.refl w).alloc _).alloc _).alloc _
     obtain ⟨b0, b1, r0⟩ := bx_three 134 134 134 w [.bool false, .slice A l.length c] [.bool true, .slice D m.length d] [.bool false, .slice none 0 0]
     go_enter Tryz.func153, Tryz.ntmps153
     go_wp2_with fail
     generalize (((w.alloc (.cells #[.bool false, .slice A l.length c] 134)).alloc (.cells #[.bool true, .slice D m.length d] 134)).alloc (.cells #[.bool false, .slice none 0 0] 134)) = W at *
     refine li2 UP hl hm ?_; clear hl hm; intro hl hm
     obtain ⟨b0_0, b0_1⟩ := b0.c2
     obtain ⟨b1_0, b1_1⟩ := b1.c2
     obtain ⟨r0_0, r0_1⟩ := r0.c2
     go_wp2_with fail
     ((with_reducible refine (ref_cmp hl hm (by omega) (by omega)).mono ?_))
     rintro e W1 ⟨rfl, rfl⟩
     rw [HC.out]
     go_wp2_with fail
     revert UP b0 b1 r0 hl hm b0_0 b0_1 b1_0 b1_1; refine lg10 (Up.refl W).drew ?_; intro UP b0 b1 r0 hl hm b0_0 b0_1 b1_0 b1_1
     obtain ⟨r0_0, r0_1⟩ := r0.c2
     have r0_f0 := r0.free
     go_region_held3 (fun w' => Up w w' ∧ w'.cell? ⟨w.heap.size, 0, none⟩ = some (.bool false) ∧ w'.cell? ⟨w.heap.size, 1, none⟩ = some (.slice A l.length c) ∧ w'.cell? ⟨w.heap.size + 1, 0, none⟩ = some (.bool true) ∧ w'.cell? ⟨w.heap.size + 1, 1, none⟩ = some (.slice D m.length d))
      (first | with_reducible exact ⟨UP, b0_0, b0_1, b1_0, b1_1⟩ | with_reducible exact ⟨(UP.alloc_drew _), (cAd b0_0), (cAd b0_1), (cAd b1_0), (cAd b1_1)⟩ | with_reducible exact ⟨(UP.alloc2_drew _ _), (cAe b0_0), (cAe b0_1), (cAe b1_0), (cAe b1_1)⟩ | ((try simp only [← World.setCell_drew]); first | with_reducible exact ⟨(us (us UP)), (cf (cf b0_0)), (cf (cf b0_1)), (cf (cf b1_0)), (cf (cf b1_1))⟩) | go_keep)
      ((first
        | (go_at_call 177
           ((with_reducible refine (ref_sub hm hl (by omega) (by omega) HLE.out).mono ?_))
           intro e W2 ret2
           obtain ⟨V2, rfl, n1, u2⟩ := ret2.ws
           clear ret2
           revert UP b0 b1 r0 hl hm b0_0 b0_1 b1_0 b1_1 r0_0 r0_1; refine lg12 u2 ?_; intro UP b0 b1 r0 hl hm b0_0 b0_1 b1_0 b1_1 r0_0 r0_1
           try (replace n1 := n1.up u2)
           try (replace z1 := z1.up u2)
           replace r0_f0 := r0.free
           clear u2
           obtain ⟨A1, k1, c1, rfl⟩ := n1.shape)
        | (go_at_call 123
           ((with_reducible refine (ref8_norm (Wh.mk true n1 (k := 100000000) (by omega)) (by omega)).mono ?_))
           rintro e W3 ⟨V3, rfl, z1, u3⟩
           revert UP b0 b1 r0 hl hm b0_0 b0_1 b1_0 b1_1 r0_0 r0_1; refine lg12 u3 ?_; intro UP b0 b1 r0 hl hm b0_0 b0_1 b1_0 b1_1 r0_0 r0_1
           try (replace n1 := n1.up u3)
           try (replace z1 := z1.up u3)
           replace r0_f0 := r0.free
           clear u3
           rw [Wd.val_words] at z1
           obtain ⟨Xz1, rfl, z1⟩ := z1
           obtain ⟨Az1, nz1, cz1, rfl⟩ := z1.shape)))
     all_goals
      go_wp2
      exact end_rz rfl rfl rfl ⟨_, rfl, z1⟩ r0 trivial trivial UP (by omega)
   · have hge : Wd.val m ≤ Wd.val l := by omega
     rw [if_neg hlt, Wd.gapN_ge hge]
     have HC : Hid (∃ t, Wd.cmpI (Wd.val l) (Wd.val m) = t ∧ 0 ≤ t) := Lib.hid ⟨_, rfl, by have := @Wd.cmpI_neg (Wd.val l) (Wd.val m); omega⟩
     have HLE := Lib.hid hge
     clear hlt hge
     have UP : Up w (((w.alloc (.cells #[.bool false, .slice A l.length c] 134)).alloc (.cells #[.bool true, .slice D m.length d] 134)).alloc (.cells #[.bool false, .slice none 0 0] 134)) := (((Up.refl w).alloc _).alloc _).alloc _
     obtain ⟨b0, b1, r0⟩ := bx_three 134 134 134 w [.bool false, .slice A l.length c] [.bool true, .slice D m.length d] [.bool false, .slice none 0 0]
     go_enter Tryz.func153, Tryz.ntmps153
     go_wp2_with fail
     generalize (((w.alloc (.cells #[.bool false, .slice A l.length c] 134)).alloc (.cells #[.bool true, .slice D m.length d] 134)).alloc (.cells #[.bool false, .slice none 0 0] 134)) = W at *
     refine li2 UP hl hm ?_; clear hl hm; intro hl hm
     obtain ⟨b0_0, b0_1⟩ := b0.c2
     obtain ⟨b1_0, b1_1⟩ := b1.c2
     obtain ⟨r0_0, r0_1⟩ := r0.c2
     go_wp2_with fail
     ((with_reducible refine (ref_cmp hl hm (by omega) (by omega)).mono ?_))
     rintro e W1 ⟨rfl, rfl⟩
     obtain ⟨t, ht, h0⟩ := HC.out
     rw [ht]
     clear ht
     go_wp2_with fail
     revert UP b0 b1 r0 hl hm b0_0 b0_1 b1_0 b1_1; refine lg10 (Up.refl W).drew ?_; intro UP b0 b1 r0 hl hm b0_0 b0_1 b1_0 b1_1
     obtain ⟨r0_0, r0_1⟩ := r0.c2
     have r0_f0 := r0.free
     go_region_held3 (fun w' => Up w w' ∧ w'.cell? ⟨w.heap.size, 0, none⟩ = some (.bool false) ∧ w'.cell? ⟨w.heap.size, 1, none⟩ = some (.slice A l.length c) ∧ w'.cell? ⟨w.heap.size + 1, 0, none⟩ = some (.bool true) ∧ w'.cell? ⟨w.heap.size + 1, 1, none⟩ = some (.slice D m.length d))
      (first | with_reducible exact ⟨UP, b0_0, b0_1, b1_0, b1_1⟩ | with_reducible exact ⟨(UP.alloc_drew _), (cAd b0_0), (cAd b0_1), (cAd b1_0), (cAd b1_1)⟩ | with_reducible exact ⟨(UP.alloc2_drew _ _), (cAe b0_0), (cAe b0_1), (cAe b1_0), (cAe b1_1)⟩ | ((try simp only [← World.setCell_drew]); first | with_reducible exact ⟨(us (us UP)), (cf (cf b0_0)), (cf (cf b0_1)), (cf (cf b1_0)), (cf (cf b1_1))⟩) | go_keep)
      ((first
        | (go_at_call 177
           ((with_reducible refine (ref_sub hl hm (by omega) (by omega) HLE.out).mono ?_))
           intro e W2 ret2
           obtain ⟨V2, rfl, n1, u2⟩ := ret2.ws
           clear ret2
           revert UP b0 b1 r0 hl hm b0_0 b0_1 b1_0 b1_1 r0_0 r0_1; refine lg12 u2 ?_; intro UP b0 b1 r0 hl hm b0_0 b0_1 b1_0 b1_1 r0_0 r0_1
           try (replace n1 := n1.up u2)
           try (replace z1 := z1.up u2)
           replace r0_f0 := r0.free
           clear u2
           obtain ⟨A1, k1, c1, rfl⟩ := n1.shape)
        | (go_at_call 123
           ((with_reducible refine (ref8_norm (Wh.mk false n1 (k := 100000000) (by omega)) (by omega)).mono ?_))
           rintro e W3 ⟨V3, rfl, z1, u3⟩
           revert UP b0 b1 r0 hl hm b0_0 b0_1 b1_0 b1_1 r0_0 r0_1; refine lg12 u3 ?_; intro UP b0 b1 r0 hl hm b0_0 b0_1 b1_0 b1_1 r0_0 r0_1
           try (replace n1 := n1.up u3)
           try (replace z1 := z1.up u3)
           replace r0_f0 := r0.free
           clear u3
           rw [Wd.val_words] at z1
           obtain ⟨Xz1, rfl, z1⟩ := z1
           obtain ⟨Az1, nz1, cz1, rfl⟩ := z1.shape)))
     all_goals
      go_wp2
      exact end_rz rfl rfl rfl ⟨_, rfl, z1⟩ r0 trivial trivial UP (by omega)
 · rw [← Wd.iv_gap true false _ _ rfl]
   by_cases hlt : Wd.val l < Wd.val m
   · rw [if_pos hlt, Wd.gapN_lt hlt]
     have HC := Lib.hid (Wd.cmpI_lt hlt)
     have HLE := Lib.hid (Nat.le_of_lt hlt)
     clear hlt
     have UP : Up w (((w.alloc (.cells #[.bool true, .slice A l.length c] 134)).alloc (.cells #[.bool false, .slice D m.length d] 134)).alloc (.cells #[.bool false, .slice none 0 0] 134)) := (((Up.refl w).alloc _).alloc _).alloc _
     obtain ⟨b0, b1, r0⟩ := bx_three 134 134 134 w [.bool true, .slice A l.length c] [.bool false, .slice D m.length d] [.bool false, .slice none 0 0]
     go_enter Tryz.func153, Tryz.ntmps153
     go_wp2_with fail
     generalize (((w.alloc (.cells #[.bool true, .slice A l.length c] 134)).alloc (.cells #[.bool false, .slice D m.length d] 134)).alloc (.cells #[.bool false, .slice none 0 0] 134)) = W at *
     refine li2 UP hl hm ?_; clear hl hm; intro hl hm
     obtain ⟨b0_0, b0_1⟩ := b0.c2
     obtain ⟨b1_0, b1_1⟩ := b1.c2
     obtain ⟨r0_0, r0_1⟩ := r0.c2
     go_wp2_with fail
     ((with_reducible refine (ref_cmp hl hm (by omega) (by omega)).mono ?_))
     rintro e W1 ⟨rfl, rfl⟩
     rw [HC.out]
     go_wp2_with fail
     revert UP b0 b1 r0 hl hm b0_0 b0_1 b1_0 b1_1; refine lg10 (Up.refl W).drew ?_; intro UP b0 b1 r0 hl hm b0_0 b0_1 b1_0 b1_1
     obtain ⟨r0_0, r0_1⟩ := r0.c2
     have r0_f0 := r0.free
     go_region_held3 (fun w' => Up w w' ∧ w'.cell? ⟨w.heap.size, 0, none⟩ = some (.bool true) ∧ w'.cell? ⟨w.heap.size, 1, none⟩ = some (.slice A l.length c) ∧ w'.cell? ⟨w.heap.size + 1, 0, none⟩ = some (.bool false) ∧ w'.cell? ⟨w.heap.size + 1, 1, none⟩ = some (.slice D m.length d))
      (first | with_reducible exact ⟨UP, b0_0, b0_1, b1_0, b1_1⟩ | with_reducible exact ⟨(UP.alloc_drew _), (cAd b0_0), (cAd b0_1), (cAd b1_0), (cAd b1_1)⟩ | with_reducible exact ⟨(UP.alloc2_drew _ _), (cAe b0_0), (cAe b0_1), (cAe b1_0), (cAe b1_1)⟩ | ((try simp only [← World.setCell_drew]); first | with_reducible exact ⟨(us (us UP)), (cf (cf b0_0)), (cf (cf b0_1)), (cf (cf b1_0)), (cf (cf b1_1))⟩) | go_keep)
      ((first
        | (go_at_call 177
           ((with_reducible refine (ref_sub hm hl (by omega) (by omega) HLE.out).mono ?_))
           intro e W2 ret2
           obtain ⟨V2, rfl, n1, u2⟩ := ret2.ws
           clear ret2
           revert UP b0 b1 r0 hl hm b0_0 b0_1 b1_0 b1_1 r0_0 r0_1; refine lg12 u2 ?_; intro UP b0 b1 r0 hl hm b0_0 b0_1 b1_0 b1_1 r0_0 r0_1
           try (replace n1 := n1.up u2)
           try (replace z1 := z1.up u2)
           replace r0_f0 := r0.free
           clear u2
           obtain ⟨A1, k1, c1, rfl⟩ := n1.shape)
        | (go_at_call 123
           ((with_reducible refine (ref8_norm (Wh.mk false n1 (k := 100000000) (by omega)) (by omega)).mono ?_))
           rintro e W3 ⟨V3, rfl, z1, u3⟩
           revert UP b0 b1 r0 hl hm b0_0 b0_1 b1_0 b1_1 r0_0 r0_1; refine lg12 u3 ?_; intro UP b0 b1 r0 hl hm b0_0 b0_1 b1_0 b1_1 r0_0 r0_1
           try (replace n1 := n1.up u3)
           try (replace z1 := z1.up u3)
           replace r0_f0 := r0.free
           clear u3
           rw [Wd.val_words] at z1
           obtain ⟨Xz1, rfl, z1⟩ := z1
           obtain ⟨Az1, nz1, cz1, rfl⟩ := z1.shape)))
     all_goals
      go_wp2
      exact end_rz rfl rfl rfl ⟨_, rfl, z1⟩ r0 trivial trivial UP (by omega)
   · have hge : Wd.val m ≤ Wd.val l := by omega
     rw [if_neg hlt, Wd.gapN_ge hge]
     have HC : Hid (∃ t, Wd.cmpI (Wd.val l) (Wd.val m) = t ∧ 0 ≤ t) := Lib.hid ⟨_, rfl, by have := @Wd.cmpI_neg (Wd.val l) (Wd.val m); omega⟩
     have HLE := Lib.hid hge
     clear hlt hge
     have UP : Up w (((w.alloc (.cells #[.bool true, .slice A l.length c] 134)).alloc (.cells #[.bool false, .slice D m.length d] 134)).alloc (.cells #[.bool false, .slice none 0 0] 134)) := (((Up.refl w).alloc _).alloc _).alloc _
     obtain ⟨b0, b1, r0⟩ := bx_three 134 134 134 w [.bool true, .slice A l.length c] [.bool false, .slice D m.length d] [.bool false, .slice none 0 0]
     go_enter Tryz.func153, Tryz.ntmps153
     go_wp2_with fail
     generalize (((w.alloc (.cells #[.bool true, .slice A l.length c] 134)).alloc (.cells #[.bool false, .slice D m.length d] 134)).alloc (.cells #[.bool false, .slice none 0 0] 134)) = W at *
     refine li2 UP hl hm ?_; clear hl hm; intro hl hm
     obtain ⟨b0_0, b0_1⟩ := b0.c2
     obtain ⟨b1_0, b1_1⟩ := b1.c2
     obtain ⟨r0_0, r0_1⟩ := r0.c2
     go_wp2_with fail
     ((with_reducible refine (ref_cmp hl hm (by omega) (by omega)).mono ?_))
     rintro e W1 ⟨rfl, rfl⟩
     obtain ⟨t, ht, h0⟩ := HC.out
     rw [ht]
     clear ht
     go_wp2_with fail
     revert UP b0 b1 r0 hl hm b0_0 b0_1 b1_0 b1_1; refine lg10 (Up.refl W).drew ?_; intro UP b0 b1 r0 hl hm b0_0 b0_1 b1_0 b1_1
     obtain ⟨r0_0, r0_1⟩ := r0.c2
     have r0_f0 := r0.free
     go_region_held3 (fun w' => Up w w' ∧ w'.cell? ⟨w.heap.size, 0, none⟩ = some (.bool true) ∧ w'.cell? ⟨w.heap.size, 1, none⟩ = some (.slice A l.length c) ∧ w'.cell? ⟨w.heap.size + 1, 0, none⟩ = some (.bool false) ∧ w'.cell? ⟨w.heap.size + 1, 1, none⟩ = some (.slice D m.length d))
      (first | with_reducible exact ⟨UP, b0_0, b0_1, b1_0, b1_1⟩ | with_reducible exact ⟨(UP.alloc_drew _), (cAd b0_0), (cAd b0_1), (cAd b1_0), (cAd b1_1)⟩ | with_reducible exact ⟨(UP.alloc2_drew _ _), (cAe b0_0), (cAe b0_1), (cAe b1_0), (cAe b1_1)⟩ | ((try simp only [← World.setCell_drew]); first | with_reducible exact ⟨(us (us UP)), (cf (cf b0_0)), (cf (cf b0_1)), (cf (cf b1_0)), (cf (cf b1_1))⟩) | go_keep)
      ((first
        | (go_at_call 177
           ((with_reducible refine (ref_sub hl hm (by omega) (by omega) HLE.out).mono ?_))
           intro e W2 ret2
           obtain ⟨V2, rfl, n1, u2⟩ := ret2.ws
           clear ret2
           revert UP b0 b1 r0 hl hm b0_0 b0_1 b1_0 b1_1 r0_0 r0_1; refine lg12 u2 ?_; intro UP b0 b1 r0 hl hm b0_0 b0_1 b1_0 b1_1 r0_0 r0_1
           try (replace n1 := n1.up u2)
           try (replace z1 := z1.up u2)
           replace r0_f0 := r0.free
           clear u2
           obtain ⟨A1, k1, c1, rfl⟩ := n1.shape)
        | (go_at_call 123
           ((with_reducible refine (ref8_norm (Wh.mk true n1 (k := 100000000) (by omega)) (by omega)).mono ?_))
           rintro e W3 ⟨V3, rfl, z1, u3⟩
           revert UP b0 b1 r0 hl hm b0_0 b0_1 b1_0 b1_1 r0_0 r0_1; refine lg12 u3 ?_; intro UP b0 b1 r0 hl hm b0_0 b0_1 b1_0 b1_1 r0_0 r0_1
           try (replace n1 := n1.up u3)
           try (replace z1 := z1.up u3)
           replace r0_f0 := r0.free
           clear u3
           rw [Wd.val_words] at z1
           obtain ⟨Xz1, rfl, z1⟩ := z1
           obtain ⟨Az1, nz1, cz1, rfl⟩ := z1.shape)))
     all_goals
      go_wp2
      exact end_rz rfl rfl rfl ⟨_, rfl, z1⟩ r0 trivial trivial UP (by omega)
 · rw [← Wd.iv_add]
   have UP : Up w (((w.alloc (.cells #[.bool true, .slice A l.length c] 134)).alloc (.cells #[.bool true, .slice D m.length d] 134)).alloc (.cells #[.bool false, .slice none 0 0] 134)) := (((Up.refl w).alloc _).alloc _).alloc _
   obtain ⟨b0, b1, r0⟩ := bx_three 134 134 134 w [.bool true, .slice A l.length c] [.bool true, .slice D m.length d] [.bool false, .slice none 0 0]
   go_enter Tryz.func153, Tryz.ntmps153
   go_wp2_with fail
   generalize (((w.alloc (.cells #[.bool true, .slice A l.length c] 134)).alloc (.cells #[.bool true, .slice D m.length d] 134)).alloc (.cells #[.bool false, .slice none 0 0] 134)) = W at *
   replace hl := hl.up UP
   replace hm := hm.up UP
   obtain ⟨b0_0, b0_1⟩ := b0.c2
   obtain ⟨b1_0, b1_1⟩ := b1.c2
   obtain ⟨r0_0, r0_1⟩ := r0.c2
   revert UP b0 b1 r0 hl hm b0_0 b0_1 b1_0 b1_1; refine lg10 (Up.refl W).drew ?_; intro UP b0 b1 r0 hl hm b0_0 b0_1 b1_0 b1_1
   obtain ⟨r0_0, r0_1⟩ := r0.c2
   have r0_f0 := r0.free
   go_region_held3 (fun w' => Up w w' ∧ w'.cell? ⟨w.heap.size, 0, none⟩ = some (.bool true) ∧ w'.cell? ⟨w.heap.size, 1, none⟩ = some (.slice A l.length c) ∧ w'.cell? ⟨w.heap.size + 1, 0, none⟩ = some (.bool true) ∧ w'.cell? ⟨w.heap.size + 1, 1, none⟩ = some (.slice D m.length d))
    (first | with_reducible exact ⟨UP, b0_0, b0_1, b1_0, b1_1⟩ | with_reducible exact ⟨(UP.alloc_drew _), (cAd b0_0), (cAd b0_1), (cAd b1_0), (cAd b1_1)⟩ | with_reducible exact ⟨(UP.alloc2_drew _ _), (cAe b0_0), (cAe b0_1), (cAe b1_0), (cAe b1_1)⟩ | ((try simp only [← World.setCell_drew]); first | with_reducible exact ⟨(us (us UP)), (cf (cf b0_0)), (cf (cf b0_1)), (cf (cf b1_0)), (cf (cf b1_1))⟩) | go_keep)
    ((first
      | (go_at_call 131
         ((with_reducible refine (ref_add hl hm (by omega) (by omega)).mono ?_))
         intro e W1 ret1
         obtain ⟨V1, rfl, n1, u1⟩ := ret1.ws
         clear ret1
         revert UP b0 b1 r0 hl hm b0_0 b0_1 b1_0 b1_1 r0_0 r0_1; refine lg12 u1 ?_; intro UP b0 b1 r0 hl hm b0_0 b0_1 b1_0 b1_1 r0_0 r0_1
         try (replace n1 := n1.up u1)
         try (replace z1 := z1.up u1)
         replace r0_f0 := r0.free
         clear u1
         obtain ⟨A1, k1, c1, rfl⟩ := n1.shape)
      | (go_at_call 123
         ((with_reducible refine (ref8_norm (Wh.mk true n1 (k := 100000000) (by omega)) (by omega)).mono ?_))
         rintro e W2 ⟨V2, rfl, z1, u2⟩
         revert UP b0 b1 r0 hl hm b0_0 b0_1 b1_0 b1_1 r0_0 r0_1; refine lg12 u2 ?_; intro UP b0 b1 r0 hl hm b0_0 b0_1 b1_0 b1_1 r0_0 r0_1
         try (replace n1 := n1.up u2)
         try (replace z1 := z1.up u2)
         replace r0_f0 := r0.free
         clear u2
         rw [Wd.val_words] at z1
         obtain ⟨Xz1, rfl, z1⟩ := z1
         obtain ⟨Az1, nz1, cz1, rfl⟩ := z1.shape)))
   all_goals
    go_wp2
    exact end_rz rfl rfl rfl ⟨_, rfl, z1⟩ r0 trivial trivial UP (by omega)
end Go.Proofs.YtmmcffceeahemaaGreat
namespace Go.Proofs.YtmmcffceeahemaaGreat
open Go.RowKit
/-- A fraction 0 with the lower number 1, written out. -/
theorem zero_qw {w : World} {g1 g2 : Nat} (y1 : Bx 122 w g1 []) (y2 : Bx 122 w g2 [.int .u32 1]) : Qw w (.agg #[.bool false, .slice (some ⟨g1, 0, none⟩) 0 0, .slice (some ⟨g2, 0, none⟩) 1 1]) 0 := by
 have e1 : Ws w (.slice (some ⟨g1, 0, none⟩) 0 0) [] := Blk.ws (l := []) y1 Wd.ok_nil (by simp [maxLen])
 have e2 : Ws w (.slice (some ⟨g2, 0, none⟩) 1 1) [1] := Blk.ws (l := [1]) y2 (by intro x hx; simp at hx; subst hx; rw [Wd.B_eq]; omega) (by simp [maxLen])
 have w1 : Wd.words 1 = [1] := by rw [Wd.words_pos (by omega), Wd.B_eq, show 1 / 4294967296 = 0 from rfl, Wd.words_zero]
 rw [← Wd.words_zero] at e1
 rw [← w1] at e2
 exact Qw.mk (q := 0) e1 e2 rfl rfl rfl
theorem words_len_zero (n : Nat) (h : n = 0) : (((Wd.words n).length : Int) == 0) = true := by rw [h, Wd.words_zero]; rfl
theorem words_len_pos (n : Nat) (h : n ≠ 0) : (((Wd.words n).length : Int) == 0) = false := by
 have : (Wd.words n).length ≠ 0 := fun e => h (Wd.words_length_zero.1 e)
 rw [beq_eq_false_iff_ne]
 omega
theorem mkRat_one (z : Int) : (mkRat z 1).num = z ∧ (mkRat z 1).den = 1 := by
 rw [Rat.num_mkRat, Rat.den_mkRat]
 simp
set_option maxRecDepth 100000 in
set_option maxHeartbeats 3200000 in
theorem ref9_norm {v : Value} {q : Rat} {k : Nat} {w : World} (h : Fr w v q k) (hk : k ≤ 10000000) : Calls Tryz.prog 24 #[v] w (RetQ q w) := by
 have H := h
 obtain ⟨s, v1, v2, l, m, rfl, hl, hm, hq, hle, hme, h1⟩ := h
 obtain ⟨A, c, rfl⟩ := hl.form
 obtain ⟨D, d, rfl⟩ := hm.form
 have w1 := Wd.words_val_length hl.ok
 have w2 := Wd.words_val_length hm.ok
 by_cases e1 : Wd.val m = 0
 · have HZ : Hid (q = 0) := Lib.hid (by rw [← hq, e1, Rat.mkRat_zero])
   have k1 := words_len_zero _ e1
   clear e1 hq
   have UP : Up w ((w.alloc (.cells #[.bool s, .slice A l.length c, .slice D m.length d] 24)).alloc (.cells #[.bool false, .slice none 0 0, .slice none 0 0] 24)) := ((Up.refl w).alloc _).alloc _
   obtain ⟨b0, r0⟩ := bx_two 24 24 w [.bool s, .slice A l.length c, .slice D m.length d] [.bool false, .slice none 0 0, .slice none 0 0]
   go_enter Tryz.func24, Tryz.ntmps24
   go_wp2_with fail
   generalize ((w.alloc (.cells #[.bool s, .slice A l.length c, .slice D m.length d] 24)).alloc (.cells #[.bool false, .slice none 0 0, .slice none 0 0] 24)) = W at *
   revert hl hm; refine lg2 UP ?_; intro hl hm
   obtain ⟨b0_0, b0_1, b0_2⟩ := b0.c3
   obtain ⟨r0_0, r0_1, r0_2⟩ := r0.c3
   have r0_f0 := r0.free
   go_wp2_with fail
   ((with_reducible refine (ref_norm hm (by omega)).mono ?_))
   intro e W1 ret1
   obtain ⟨V1, rfl, n2, u1⟩ := ret1.ws
   clear ret1
   revert UP b0 r0 hl hm b0_0 b0_1 b0_2 r0_0 r0_1 r0_2; refine lg11 u1 ?_; intro UP b0 r0 hl hm b0_0 b0_1 b0_2 r0_0 r0_1 r0_2
   replace r0_f0 := r0.free
   clear u1
   go_wp2_with fail
   ((with_reducible refine (ref_norm hl (by omega)).mono ?_))
   intro e W2 ret2
   obtain ⟨V2, rfl, n1, u2⟩ := ret2.ws
   clear ret2
   revert n2 UP b0 r0 hl hm b0_0 b0_1 b0_2 r0_0 r0_1 r0_2; refine lg12 u2 ?_; intro n2 UP b0 r0 hl hm b0_0 b0_1 b0_2 r0_0 r0_1 r0_2
   replace r0_f0 := r0.free
   clear u2
   obtain ⟨A1, c1, rfl⟩ := n1.form
   obtain ⟨A2, c2, rfl⟩ := n2.form
   have b0_0a := cA b0_0
   have b0_1a := cA b0_1
   have b0_2a := cA b0_2
   have r0_0a := cA r0_0
   have r0_f0a := r0.fa
   have r0_1a := cA r0_1
   have r0_2a := cA r0_2
   have b0_0b := cA2 b0_0
   have b0_1b := cA2 b0_1
   have b0_2b := cA2 b0_2
   have r0_0b := cA2 r0_0
   have r0_f0b := r0.fa2
   have r0_1b := cA2 r0_1
   have r0_2b := cA2 r0_2
   go_wp2_with fail
   clear b0_0a b0_1a b0_2a r0_0a r0_f0a r0_1a r0_2a b0_0b b0_1b b0_2b r0_0b r0_f0b r0_1b r0_2b
   obtain ⟨y1, y2⟩ := bx_two 122 122 W2 [] [.int .u32 1]
   have b0_lt_y1 := b0.lt
   have r0_lt_y1 := r0.lt
   have b0_lt_y2 := b0.lt
   have r0_lt_y2 := r0.lt
   have nu := ((((Up.refl W2).alloc (.cells #[] 122))).alloc (.cells #[.int .u32 1] 122))
   revert UP b0 r0 hl hm n1 n2; revert nu; refine lh7 ?_; intro UP b0 r0 hl hm n1 n2
   generalize ((W2.alloc (.cells #[] 122)).alloc (.cells #[.int .u32 1] 122)) = W3 at *
   clear b0_0 b0_1 b0_2 r0_0 r0_1 r0_2
   obtain ⟨b0_0, b0_1, b0_2⟩ := b0.c3
   obtain ⟨r0_0, r0_1, r0_2⟩ := r0.c3
   replace r0_f0 := r0.free
   have y2_0 := y2.c1
   exact end_rq rfl rfl rfl (by rw [HZ.out]; exact zero_qw y1 y2) r0 trivial trivial trivial UP (by omega)
 by_cases e2 : Wd.val l = 0
 · have HZ : Hid (q = 0) := Lib.hid (by rw [← hq, e2, Wd.iv_zero, Rat.zero_mkRat])
   have k1 := words_len_pos _ e1
   have k2 := words_len_zero _ e2
   clear e1 e2 hq
   have UP : Up w ((w.alloc (.cells #[.bool s, .slice A l.length c, .slice D m.length d] 24)).alloc (.cells #[.bool false, .slice none 0 0, .slice none 0 0] 24)) := ((Up.refl w).alloc _).alloc _
   obtain ⟨b0, r0⟩ := bx_two 24 24 w [.bool s, .slice A l.length c, .slice D m.length d] [.bool false, .slice none 0 0, .slice none 0 0]
   go_enter Tryz.func24, Tryz.ntmps24
   go_wp2_with fail
   generalize ((w.alloc (.cells #[.bool s, .slice A l.length c, .slice D m.length d] 24)).alloc (.cells #[.bool false, .slice none 0 0, .slice none 0 0] 24)) = W at *
   revert hl hm; refine lg2 UP ?_; intro hl hm
   obtain ⟨b0_0, b0_1, b0_2⟩ := b0.c3
   obtain ⟨r0_0, r0_1, r0_2⟩ := r0.c3
   have r0_f0 := r0.free
   go_wp2_with fail
   ((with_reducible refine (ref_norm hm (by omega)).mono ?_))
   intro e W1 ret1
   obtain ⟨V1, rfl, n2, u1⟩ := ret1.ws
   clear ret1
   revert UP b0 r0 hl hm b0_0 b0_1 b0_2 r0_0 r0_1 r0_2; refine lg11 u1 ?_; intro UP b0 r0 hl hm b0_0 b0_1 b0_2 r0_0 r0_1 r0_2
   replace r0_f0 := r0.free
   clear u1
   go_wp2_with fail
   ((with_reducible refine (ref_norm hl (by omega)).mono ?_))
   intro e W2 ret2
   obtain ⟨V2, rfl, n1, u2⟩ := ret2.ws
   clear ret2
   revert n2 UP b0 r0 hl hm b0_0 b0_1 b0_2 r0_0 r0_1 r0_2; refine lg12 u2 ?_; intro n2 UP b0 r0 hl hm b0_0 b0_1 b0_2 r0_0 r0_1 r0_2
   replace r0_f0 := r0.free
   clear u2
   obtain ⟨A1, c1, rfl⟩ := n1.form
   obtain ⟨A2, c2, rfl⟩ := n2.form
   have b0_0a := cA b0_0
   have b0_1a := cA b0_1
   have b0_2a := cA b0_2
   have r0_0a := cA r0_0
   have r0_f0a := r0.fa
   have r0_1a := cA r0_1
   have r0_2a := cA r0_2
   have b0_0b := cA2 b0_0
   have b0_1b := cA2 b0_1
   have b0_2b := cA2 b0_2
   have r0_0b := cA2 r0_0
   have r0_f0b := r0.fa2
   have r0_1b := cA2 r0_1
   have r0_2b := cA2 r0_2
   go_wp2_with fail
   clear b0_0a b0_1a b0_2a r0_0a r0_f0a r0_1a r0_2a b0_0b b0_1b b0_2b r0_0b r0_f0b r0_1b r0_2b
   obtain ⟨y1, y2⟩ := bx_two 122 122 W2 [] [.int .u32 1]
   have b0_lt_y1 := b0.lt
   have r0_lt_y1 := r0.lt
   have b0_lt_y2 := b0.lt
   have r0_lt_y2 := r0.lt
   have nu := ((((Up.refl W2).alloc (.cells #[] 122))).alloc (.cells #[.int .u32 1] 122))
   revert UP b0 r0 hl hm n1 n2; revert nu; refine lh7 ?_; intro UP b0 r0 hl hm n1 n2
   generalize ((W2.alloc (.cells #[] 122)).alloc (.cells #[.int .u32 1] 122)) = W3 at *
   clear b0_0 b0_1 b0_2 r0_0 r0_1 r0_2
   obtain ⟨b0_0, b0_1, b0_2⟩ := b0.c3
   obtain ⟨r0_0, r0_1, r0_2⟩ := r0.c3
   replace r0_f0 := r0.free
   have y2_0 := y2.c1
   exact end_rq rfl rfl rfl (by rw [HZ.out]; exact zero_qw y1 y2) r0 trivial trivial trivial UP (by omega)
 have k1 := words_len_pos _ e1
 have k2 := words_len_pos _ e2
 have HN2 := Lib.hid e1
 have HN1 : Hid (Wd.ngb (Wd.iv s (Wd.val l)) = s) := Lib.hid (Wd.iv_ne s e2)
 by_cases e3 : Wd.val m = 1
 · have HO : Hid (decide (Wd.val m = 1) = true) := Lib.hid (decide_eq_true e3)
   have HQ : Hid (q.num = Wd.iv s (Wd.val l) ∧ q.den = Wd.val m) := Lib.hid (by rw [← hq, e3]; exact mkRat_one _)
   clear e1 e2 e3 hq
   have UP : Up w ((w.alloc (.cells #[.bool s, .slice A l.length c, .slice D m.length d] 24)).alloc (.cells #[.bool false, .slice none 0 0, .slice none 0 0] 24)) := ((Up.refl w).alloc _).alloc _
   obtain ⟨b0, r0⟩ := bx_two 24 24 w [.bool s, .slice A l.length c, .slice D m.length d] [.bool false, .slice none 0 0, .slice none 0 0]
   go_enter Tryz.func24, Tryz.ntmps24
   go_wp2_with fail
   generalize ((w.alloc (.cells #[.bool s, .slice A l.length c, .slice D m.length d] 24)).alloc (.cells #[.bool false, .slice none 0 0, .slice none 0 0] 24)) = W at *
   revert hl hm; refine lg2 UP ?_; intro hl hm
   obtain ⟨b0_0, b0_1, b0_2⟩ := b0.c3
   obtain ⟨r0_0, r0_1, r0_2⟩ := r0.c3
   have r0_f0 := r0.free
   go_wp2_with fail
   ((with_reducible refine (ref_norm hm (by omega)).mono ?_))
   intro e W1 ret1
   obtain ⟨V1, rfl, n2, u1⟩ := ret1.ws
   clear ret1
   revert UP b0 r0 hl hm b0_0 b0_1 b0_2 r0_0 r0_1 r0_2; refine lg11 u1 ?_; intro UP b0 r0 hl hm b0_0 b0_1 b0_2 r0_0 r0_1 r0_2
   replace r0_f0 := r0.free
   clear u1
   go_wp2_with fail
   ((with_reducible refine (ref_norm hl (by omega)).mono ?_))
   intro e W2 ret2
   obtain ⟨V2, rfl, n1, u2⟩ := ret2.ws
   clear ret2
   revert n2 UP b0 r0 hl hm b0_0 b0_1 b0_2 r0_0 r0_1 r0_2; refine lg12 u2 ?_; intro n2 UP b0 r0 hl hm b0_0 b0_1 b0_2 r0_0 r0_1 r0_2
   replace r0_f0 := r0.free
   clear u2
   obtain ⟨A1, c1, rfl⟩ := n1.form
   obtain ⟨A2, c2, rfl⟩ := n2.form
   go_wp2_with fail
   ((with_reducible refine (ref_one n2 (by omega)).mono ?_))
   rintro e W3 ⟨rfl, rfl⟩
   rw [HO.out]
   go_wp2_with fail
   exact end_rq rfl rfl rfl (Qw.mk (q := q) n1 n2 (by rw [HQ.out.1, HN1.out]) (by rw [HQ.out.1, Wd.iv_abs]) HQ.out.2) r0 trivial trivial trivial UP (by omega)
 · have HO : Hid (decide (Wd.val m = 1) = false) := Lib.hid (decide_eq_false e3)
   have HP := Lib.hid (Wd.mkRat_parts s (Wd.val l) e1)
   have hg := Wd.gcd_len (n := 10000000) (Nat.le_trans w1 (by omega)) (Nat.le_trans w2 (by omega))
   have HG : Hid (Nat.gcd (Wd.val l) (Wd.val m) ≠ 0) := Lib.hid (fun e => e1 (Wd.gcd_eq_zero.1 e).2)
   have HD : Hid (Wd.val l / Nat.gcd (Wd.val l) (Wd.val m) ≠ 0) := Lib.hid (fun e => e2 (by have := Wd.div_gcd_left (Wd.val l) (Wd.val m); rw [e, Nat.mul_zero] at this; exact this.symm))
   have HQ := Lib.hid hq
   clear e1 e2 e3 hq
   have UP : Up w ((w.alloc (.cells #[.bool s, .slice A l.length c, .slice D m.length d] 24)).alloc (.cells #[.bool false, .slice none 0 0, .slice none 0 0] 24)) := ((Up.refl w).alloc _).alloc _
   obtain ⟨b0, r0⟩ := bx_two 24 24 w [.bool s, .slice A l.length c, .slice D m.length d] [.bool false, .slice none 0 0, .slice none 0 0]
   go_enter Tryz.func24, Tryz.ntmps24
   go_wp2_with fail
   generalize ((w.alloc (.cells #[.bool s, .slice A l.length c, .slice D m.length d] 24)).alloc (.cells #[.bool false, .slice none 0 0, .slice none 0 0] 24)) = W at *
   revert hl hm; refine lg2 UP ?_; intro hl hm
   obtain ⟨b0_0, b0_1, b0_2⟩ := b0.c3
   obtain ⟨r0_0, r0_1, r0_2⟩ := r0.c3
   have r0_f0 := r0.free
   go_wp2_with fail
   ((with_reducible refine (ref_norm hm (by omega)).mono ?_))
   intro e W1 ret1
   obtain ⟨V1, rfl, n2, u1⟩ := ret1.ws
   clear ret1
   revert UP b0 r0 hl hm b0_0 b0_1 b0_2 r0_0 r0_1 r0_2; refine lg11 u1 ?_; intro UP b0 r0 hl hm b0_0 b0_1 b0_2 r0_0 r0_1 r0_2
   replace r0_f0 := r0.free
   clear u1
   go_wp2_with fail
   ((with_reducible refine (ref_norm hl (by omega)).mono ?_))
   intro e W2 ret2
   obtain ⟨V2, rfl, n1, u2⟩ := ret2.ws
   clear ret2
   revert n2 UP b0 r0 hl hm b0_0 b0_1 b0_2 r0_0 r0_1 r0_2; refine lg12 u2 ?_; intro n2 UP b0 r0 hl hm b0_0 b0_1 b0_2 r0_0 r0_1 r0_2
   replace r0_f0 := r0.free
   clear u2
   obtain ⟨A1, c1, rfl⟩ := n1.form
   obtain ⟨A2, c2, rfl⟩ := n2.form
   go_wp2_with fail
   ((with_reducible refine (ref_one n2 (by omega)).mono ?_))
   rintro e W3 ⟨rfl, rfl⟩
   rw [HO.out]
   go_wp2_with fail
   ((with_reducible refine (ref_gcd n1 n2 (by omega) (by omega)).mono ?_))
   rintro e W4 ⟨V4, rfl, g, u4⟩
   revert UP b0 r0 hl hm b0_0 b0_1 b0_2 r0_0 r0_1 n1 n2; refine lg12 u4 ?_; intro UP b0 r0 hl hm b0_0 b0_1 b0_2 r0_0 r0_1 n1 n2; revert r0_2; refine lg1 u4 ?_; intro r0_2
   replace r0_f0 := r0.free
   clear u4
   rw [Wd.val_words, Wd.val_words] at g
   go_wp2_with fail
   ((with_reducible refine (ref_over n1 g (by omega) (by omega) HG.out).mono ?_))
   rintro e W5 ⟨V5, rfl, o1, u5⟩
   revert g UP b0 r0 hl hm b0_0 b0_1 b0_2 r0_0 n1 n2; refine lg12 u5 ?_; intro g UP b0 r0 hl hm b0_0 b0_1 b0_2 r0_0 n1 n2; revert r0_1 r0_2; refine lg2 u5 ?_; intro r0_1 r0_2
   replace r0_f0 := r0.free
   clear u5
   rw [Wd.val_words] at o1
   go_wp2_with fail
   ((with_reducible refine (ref_over n2 g (by omega) (by omega) HG.out).mono ?_))
   rintro e W6 ⟨V6, rfl, o2, u6⟩
   revert o1 g UP b0 r0 hl hm b0_0 b0_1 b0_2 n1 n2; refine lg12 u6 ?_; intro o1 g UP b0 r0 hl hm b0_0 b0_1 b0_2 n1 n2; revert r0_0 r0_1 r0_2; refine lg3 u6 ?_; intro r0_0 r0_1 r0_2
   replace r0_f0 := r0.free
   clear u6
   rw [Wd.val_words] at o2
   obtain ⟨B1, x1, f1, rfl⟩ := o1.shape
   obtain ⟨B2, x2, f2, rfl⟩ := o2.shape
   go_wp2_with fail
   exact end_rq rfl rfl rfl (Qw.mk (q := q) o1 o2 (by rw [← HQ.out, HP.out.1, Wd.iv_ne s HD.out]) (by rw [← HQ.out, HP.out.1, Wd.iv_abs]) (by rw [← HQ.out]; exact HP.out.2)) r0 trivial trivial trivial UP (by omega)
end Go.Proofs.YtmmcffceeahemaaGreat
namespace Go.Proofs.YtmmcffceeahemaaGreat
open Go.RowKit
theorem bx_ws1 {w : World} {g : Nat} (y : Bx 122 w g [.int .u32 1]) : Ws w (.slice (some ⟨g, 0, none⟩) 1 1) [1] := Blk.ws (l := [1]) y (by intro x hx; simp at hx; subst hx; rw [Wd.B_eq]; omega) (by simp [maxLen])
theorem Fr.mk' {w : World} {u d : Value} {l m : List Nat} {q : Rat} {k : Nat} (s : Bool) (h : Ws w u l) (h' : Ws w d m) (hq : mkRat (Wd.iv s (Wd.val l)) (Wd.val m) = q) (hl : l.length ≤ k) (hm : m.length ≤ k) (h1 : 1 ≤ k) : Fr w (.agg #[.bool s, u, d]) q k := ⟨s, u, d, l, m, rfl, h, h', hq, hl, hm, h1⟩
theorem mkRat_int (z : Int) : mkRat z 1 = (z : Rat) := Rat.ext (mkRat_one z).1 (mkRat_one z).2
theorem u64_conv {n : Int} (h : n < 0) (h2 : -9223372036854775808 ≤ n) : IntKind.u64.wrap (-(n + 1)) = ((-(n + 1)).toNat : Int) := by rw [IntKind.wrap_u64]; omega
set_option maxHeartbeats 1600000 in
theorem ref9_int {n : Int} (hn : -9223372036854775808 ≤ n ∧ n ≤ 9223372036854775807) (w : World) : Calls Tryz.prog 65 #[.int .i64 n] w (RetQ (n : Rat) w) := by
 have hlen : (Wd.words n.natAbs).length ≤ 2 := Wd.words_64 (by omega)
 by_cases h : n < 0
 · have E : Hid (Wd.val (Wd.words (-(n + 1)).toNat) + Wd.val [1] = n.natAbs) := Lib.hid (by rw [Wd.val_words]; simp [Wd.val]; omega)
   have hlen2 : (Wd.words (-(n + 1)).toNat).length ≤ 2 := Wd.words_64 (by omega)
   have HQ : Hid (mkRat (Wd.iv true (Wd.val (Wd.words n.natAbs))) (Wd.val [1]) = (n : Rat)) := Lib.hid (by rw [Wd.val_words, show Wd.val [1] = 1 from rfl, mkRat_int, Wd.iv_true]; congr 1; omega)
   have k1 : IntKind.i64.wrap (-(n + 1)) = -(n + 1) := IntWalk.i64_in _ (by omega)
   have k2 : IntKind.u64.wrap (-(n + 1)) = ((-(n + 1)).toNat : Int) := u64_conv h (by omega)
   have K2 := Lib.hid k2
   clear k2
   have UP : Up w (w.alloc (.cells #[.bool false, .slice none 0 0, .slice none 0 0] 24)) := (Up.refl w).alloc _
   have r0 := Bx.new 24 w [.bool false, .slice none 0 0, .slice none 0 0]
   go_enter Tryz.func65, Tryz.ntmps65
   go_wp2_with fail
   generalize (w.alloc (.cells #[.bool false, .slice none 0 0, .slice none 0 0] 24)) = W at *
   obtain ⟨r0_0, r0_1, r0_2⟩ := r0.c3
   have r0_f0 := r0.free
   go_wp2_with fail
   ((with_reducible refine (ref_of (-(n + 1)).toNat (by first | exact K2.out | (rw [← K2.out]; first | rfl | (congr 1; omega)) | omega) (by omega) _).mono ?_))
   intro e W1 ret1
   obtain ⟨V1, rfl, a, u1⟩ := ret1.ws
   clear ret1
   revert UP r0 r0_0 r0_1 r0_2; refine lg5 u1 ?_; intro UP r0 r0_0 r0_1 r0_2
   replace r0_f0 := r0.free
   clear u1
   obtain ⟨A1, x1, c1, rfl⟩ := a.shape
   have r0_0a := cA r0_0
   have r0_f0a := r0.fa
   have r0_1a := cA r0_1
   have r0_2a := cA r0_2
   go_wp2_with fail
   clear r0_0a r0_f0a r0_1a r0_2a
   have y1 := Bx.new 122 W1 [.int .u32 1]
   have r0_lt_y1 := r0.lt
   have nu := ((Up.refl W1).alloc (.cells #[.int .u32 1] 122))
   revert UP r0 a; revert nu; refine lh3 ?_; intro UP r0 a
   generalize (W1.alloc (.cells #[.int .u32 1] 122)) = W2 at *
   clear r0_0 r0_1 r0_2
   obtain ⟨r0_0, r0_1, r0_2⟩ := r0.c3
   replace r0_f0 := r0.free
   have y1_0 := y1.c1
   ((with_reducible refine (ref_add a (bx_ws1 y1) (by omega) (by simp)).mono ?_))
   intro e W3 ret3
   obtain ⟨V3, rfl, b, u3⟩ := ret3.ws
   clear ret3
   clear y1_0; revert y1 UP r0 a r0_0 r0_1 r0_2; refine lg7 u3 ?_; intro y1 UP r0 a r0_0 r0_1 r0_2
   replace r0_f0 := r0.free
   have y1_0 := y1.c1
   clear u3
   rw [E.out] at b
   obtain ⟨A2, x2, c2, rfl⟩ := b.shape
   have r0_0a := cA r0_0
   have r0_f0a := r0.fa
   have r0_1a := cA r0_1
   have r0_2a := cA r0_2
   have y1_0a := cA y1_0
   go_wp2_with fail
   clear r0_0a r0_f0a r0_1a r0_2a y1_0a
   have y2 := Bx.new 122 W3 [.int .u32 1]
   have r0_lt_y2 := r0.lt
   have y1_lt_y2 := y1.lt
   have nu := ((Up.refl W3).alloc (.cells #[.int .u32 1] 122))
   revert y1 UP r0 a b; revert nu; refine lh5 ?_; intro y1 UP r0 a b
   generalize (W3.alloc (.cells #[.int .u32 1] 122)) = W4 at *
   clear r0_0 r0_1 r0_2 y1_0
   obtain ⟨r0_0, r0_1, r0_2⟩ := r0.c3
   replace r0_f0 := r0.free
   have y1_0 := y1.c1
   have y2_0 := y2.c1
   ((with_reducible refine (ref9_norm (Fr.mk' (k := 2) true b (bx_ws1 y2) HQ.out (by omega) (by simp) (by omega)) (by omega)).mono ?_))
   rintro e W5 ⟨V5, rfl, q1, u5⟩
   clear y1_0 y2_0; revert y2 y1 UP r0 a b r0_0 r0_1 r0_2; refine lg9 u5 ?_; intro y2 y1 UP r0 a b r0_0 r0_1 r0_2
   replace r0_f0 := r0.free
   have y1_0 := y1.c1
   have y2_0 := y2.c1
   clear u5
   obtain ⟨Xq1, Yq1, rfl, q1, q1d⟩ := q1
   obtain ⟨Aq1, nq1, cq1, rfl⟩ := q1.shape
   obtain ⟨Aq1d, nq1d, cq1d, rfl⟩ := q1d.shape
   go_wp2_with fail
   exact end_rq rfl rfl rfl (Qw.mk (q := (n : Rat)) q1 q1d rfl rfl rfl) r0 trivial trivial trivial UP (by omega)
 · have HQ : Hid (mkRat (Wd.iv false (Wd.val (Wd.words n.natAbs))) (Wd.val [1]) = (n : Rat)) := Lib.hid (by rw [Wd.val_words, show Wd.val [1] = 1 from rfl, mkRat_int, Wd.iv_false]; congr 1; omega)
   have UP : Up w (w.alloc (.cells #[.bool false, .slice none 0 0, .slice none 0 0] 24)) := (Up.refl w).alloc _
   have r0 := Bx.new 24 w [.bool false, .slice none 0 0, .slice none 0 0]
   go_enter Tryz.func65, Tryz.ntmps65
   go_wp2_with fail
   generalize (w.alloc (.cells #[.bool false, .slice none 0 0, .slice none 0 0] 24)) = W at *
   obtain ⟨r0_0, r0_1, r0_2⟩ := r0.c3
   have r0_f0 := r0.free
   go_wp2_with fail
   ((with_reducible refine (ref_of n.natAbs (by first | (rw [IntKind.wrap_u64]; omega) | omega) (by omega) _).mono ?_))
   intro e W1 ret1
   obtain ⟨V1, rfl, a, u1⟩ := ret1.ws
   clear ret1
   revert UP r0 r0_0 r0_1 r0_2; refine lg5 u1 ?_; intro UP r0 r0_0 r0_1 r0_2
   replace r0_f0 := r0.free
   clear u1
   obtain ⟨A1, x1, c1, rfl⟩ := a.shape
   have r0_0a := cA r0_0
   have r0_f0a := r0.fa
   have r0_1a := cA r0_1
   have r0_2a := cA r0_2
   go_wp2_with fail
   clear r0_0a r0_f0a r0_1a r0_2a
   have y2 := Bx.new 122 W1 [.int .u32 1]
   have r0_lt_y2 := r0.lt
   have nu := ((Up.refl W1).alloc (.cells #[.int .u32 1] 122))
   revert UP r0 a; revert nu; refine lh3 ?_; intro UP r0 a
   generalize (W1.alloc (.cells #[.int .u32 1] 122)) = W2 at *
   clear r0_0 r0_1 r0_2
   obtain ⟨r0_0, r0_1, r0_2⟩ := r0.c3
   replace r0_f0 := r0.free
   have y2_0 := y2.c1
   ((with_reducible refine (ref9_norm (Fr.mk' (k := 2) false a (bx_ws1 y2) HQ.out (by omega) (by simp) (by omega)) (by omega)).mono ?_))
   rintro e W3 ⟨V3, rfl, q1, u3⟩
   clear y2_0; revert y2 UP r0 a r0_0 r0_1 r0_2; refine lg7 u3 ?_; intro y2 UP r0 a r0_0 r0_1 r0_2
   replace r0_f0 := r0.free
   have y2_0 := y2.c1
   clear u3
   obtain ⟨Xq1, Yq1, rfl, q1, q1d⟩ := q1
   obtain ⟨Aq1, nq1, cq1, rfl⟩ := q1.shape
   obtain ⟨Aq1d, nq1d, cq1d, rfl⟩ := q1d.shape
   go_wp2_with fail
   exact end_rq rfl rfl rfl (Qw.mk (q := (n : Rat)) q1 q1d rfl rfl rfl) r0 trivial trivial trivial UP (by omega)
set_option maxHeartbeats 1600000 in
theorem ref9_zero {v : Value} {q : Rat} {w : World} (h : Qw w v q) : Calls Tryz.prog 101 #[v] w fun e w' => e = .returned (.bool (decide (q = 0))) ∧ Up w w' := by
 obtain ⟨v1, v2, rfl, hl, hm⟩ := h
 obtain ⟨A, c, rfl⟩ := hl.form
 obtain ⟨D, m, d, rfl⟩ := hm.shape
 have HD : Hid ((((Wd.words q.num.natAbs).length : Int) == 0) = decide (q = 0)) := Lib.hid (by
  by_cases h : q = 0
  · rw [decide_eq_true h, h]; exact words_len_zero _ rfl
  · rw [decide_eq_false h]; exact words_len_pos _ (fun e => h (Rat.num_eq_zero.1 (by omega))))
 generalize (Wd.words q.num.natAbs).length = n at *
 clear hl hm
 have UP : Up w (w.alloc (.cells #[.bool (Wd.ngb q.num), .slice A n c, .slice D m d] 24)) := (Up.refl w).alloc _
 have b0 := Bx.new 24 w [.bool (Wd.ngb q.num), .slice A n c, .slice D m d]
 go_enter Tryz.func101, Tryz.ntmps101
 go_wp2_with fail
 generalize (w.alloc (.cells #[.bool (Wd.ngb q.num), .slice A n c, .slice D m d] 24)) = W at *
 obtain ⟨b0_0, b0_1, b0_2⟩ := b0.c3
 go_ret
 exact ⟨by rw [← HD.out]; rfl, UP⟩
theorem mul_law (q r : Rat) : mkRat (Wd.iv (!(Wd.ngb q.num == Wd.ngb r.num)) (q.num.natAbs * r.num.natAbs)) (q.den * r.den) = q * r := by
 rw [Rat.mul_def']
 congr 1
 have := Wd.iv_mul (Wd.ngb q.num) (Wd.ngb r.num) q.num.natAbs r.num.natAbs
 rw [Wd.iv_ngb, Wd.iv_ngb] at this
 exact this
theorem quo_law (q r : Rat) : mkRat (Wd.iv (!(Wd.ngb q.num == Wd.ngb r.num)) (q.num.natAbs * r.den)) (q.den * r.num.natAbs) = q / r := by
 by_cases h : r = 0
 · subst h
   simp [Rat.div_def]
 · have h1 : (Wd.ngb q.num == Wd.ngb r.num) = (Wd.ngb (q.num * (r.den : Int)) == Wd.ngb r.num) := by
    have hd := r.den_pos
    have : Wd.ngb (q.num * (r.den : Int)) = Wd.ngb q.num := by
     unfold Wd.ngb
     rw [decide_eq_decide]
     have hp : (0 : Int) < (r.den : Int) := by omega
     constructor
     · intro hh
       rcases Int.lt_or_le q.num 0 with h | h
       · exact h
       · have := Int.mul_nonneg h (Int.le_of_lt hp); omega
     · intro hh
       exact Int.mul_neg_of_neg_of_pos hh hp
    rw [this]
   have h0 : r.num.natAbs ≠ 0 := fun e => h (Rat.num_eq_zero.1 (by omega))
   have := Wd.quo_mk q.num (t := Wd.ngb r.num) h0 q.den_nz r.den_nz
   rw [Wd.iv_ngb, Rat.mkRat_self, Rat.mkRat_self, Int.natAbs_mul, Int.natAbs_natCast] at this
   rw [h1]
   exact this
set_option maxRecDepth 100000 in
set_option maxHeartbeats 3200000 in
theorem ref9_mul {v u : Value} {q r : Rat} {j k : Nat} {w : World} (h : Qw w v q) (h' : Qw w u r) (lj : Wd.Lq q j) (lk : Wd.Lq r k) (hj : j ≤ 4000000) (hk : k ≤ 4000000) : Calls Tryz.prog 57 #[v, u] w (RetQ (q * r) w) := by
 have j1 : (Wd.words q.num.natAbs).length ≤ j := lj.1
 have j2 : (Wd.words q.den).length ≤ j := lj.2
 have k1 : (Wd.words r.num.natAbs).length ≤ k := lk.1
 have k2 : (Wd.words r.den).length ≤ k := lk.2
 have m1 := Wd.words_mul_le j1 k1
 have m2 := Wd.words_mul_le j2 k2
 have jp := lj.pos
 have HQ : Hid (mkRat (Wd.iv (!(Wd.ngb q.num == Wd.ngb r.num)) (Wd.val (Wd.words (q.num.natAbs * r.num.natAbs)))) (Wd.val (Wd.words (q.den * r.den))) = q * r) := Lib.hid (by
  rw [Wd.val_words, Wd.val_words]
  exact mul_law q r)
 obtain ⟨v1, v2, rfl, hl, hm⟩ := h
 obtain ⟨v3, v4, rfl, hl', hm'⟩ := h'
 obtain ⟨A, n, c, rfl⟩ := hl.shape
 obtain ⟨D, m, d, rfl⟩ := hm.shape
 obtain ⟨A', n', c', rfl⟩ := hl'.shape
 obtain ⟨D', m', d', rfl⟩ := hm'.shape
 generalize hs : Wd.ngb q.num = s at *
 generalize ht : Wd.ngb r.num = t at *
 clear hs ht lj lk
 have UP : Up w (((w.alloc (.cells #[.bool s, .slice A n c, .slice D m d] 24)).alloc (.cells #[.bool t, .slice A' n' c', .slice D' m' d'] 24)).alloc (.cells #[.bool false, .slice none 0 0, .slice none 0 0] 24)) := (((Up.refl w).alloc _).alloc _).alloc _
 obtain ⟨b0, b1, r0⟩ := bx_three 24 24 24 w [.bool s, .slice A n c, .slice D m d] [.bool t, .slice A' n' c', .slice D' m' d'] [.bool false, .slice none 0 0, .slice none 0 0]
 go_enter Tryz.func57, Tryz.ntmps57
 go_wp2_with fail
 generalize (((w.alloc (.cells #[.bool s, .slice A n c, .slice D m d] 24)).alloc (.cells #[.bool t, .slice A' n' c', .slice D' m' d'] 24)).alloc (.cells #[.bool false, .slice none 0 0, .slice none 0 0] 24)) = W at *
 refine li4 UP hl hm hl' hm' ?_
 clear hl hm hl' hm'
 intro hl hm hl' hm'
 obtain ⟨b0_0, b0_1, b0_2⟩ := b0.c3
 obtain ⟨b1_0, b1_1, b1_2⟩ := b1.c3
 obtain ⟨r0_0, r0_1, r0_2⟩ := r0.c3
 revert UP b0 b1 r0 hl hm hl' hm' b0_0 b0_1 b0_2 b1_0
 refine lg12 (Up.refl W).drew ?_
 intro UP b0 b1 r0 hl hm hl' hm' b0_0 b0_1 b0_2 b1_0
 revert b1_1 b1_2
 refine lg2 (Up.refl W).drew ?_
 intro b1_1 b1_2
 obtain ⟨r0_0, r0_1, r0_2⟩ := r0.c3
 have r0_f0 := r0.free
 go_region_held3 (fun w' => Up w w' ∧ w'.cell? ⟨w.heap.size, 0, none⟩ = some (.bool s) ∧ w'.cell? ⟨w.heap.size, 1, none⟩ = some (.slice A n c) ∧ w'.cell? ⟨w.heap.size, 2, none⟩ = some (.slice D m d) ∧ w'.cell? ⟨w.heap.size + 1, 0, none⟩ = some (.bool t) ∧ w'.cell? ⟨w.heap.size + 1, 1, none⟩ = some (.slice A' n' c') ∧ w'.cell? ⟨w.heap.size + 1, 2, none⟩ = some (.slice D' m' d'))
  (first | with_reducible exact ⟨UP, b0_0, b0_1, b0_2, b1_0, b1_1, b1_2⟩ | with_reducible exact ⟨(UP.alloc_drew _), (cAd b0_0), (cAd b0_1), (cAd b0_2), (cAd b1_0), (cAd b1_1), (cAd b1_2)⟩ | with_reducible exact ⟨(UP.alloc2_drew _ _), (cAe b0_0), (cAe b0_1), (cAe b0_2), (cAe b1_0), (cAe b1_1), (cAe b1_2)⟩ | ((try simp only [← World.setCell_drew]); first | with_reducible exact ⟨(us (us (us UP))), (cf (cf (cf b0_0))), (cf (cf (cf b0_1))), (cf (cf (cf b0_2))), (cf (cf (cf b1_0))), (cf (cf (cf b1_1))), (cf (cf (cf b1_2)))⟩) | go_keep)
  ((first
    | (go_at_call 125
       ((with_reducible refine (ref_mul hl hl' (by omega) (by omega)).mono ?_))
       intro e W1 ret1
       obtain ⟨V1, rfl, p1, u1⟩ := ret1.ws
       clear ret1
       revert UP b0 b1 r0 hl hm hl' hm' b0_0 b0_1 b0_2 b1_0; refine lg12 u1 ?_; intro UP b0 b1 r0 hl hm hl' hm' b0_0 b0_1 b0_2 b1_0; revert b1_1 b1_2 r0_0 r0_1 r0_2; refine lg5 u1 ?_; intro b1_1 b1_2 r0_0 r0_1 r0_2
       try (replace p1 := p1.up u1)
       try (replace p2 := p2.up u1)
       try (replace q1 := q1.up u1)
       replace r0_f0 := r0.free
       clear u1
       rw [Wd.val_words, Wd.val_words] at p1
       obtain ⟨B1, x1, f1, rfl⟩ := p1.shape)
    | (go_at_call 125
       ((with_reducible refine (ref_mul hm hm' (by omega) (by omega)).mono ?_))
       intro e W2 ret2
       obtain ⟨V2, rfl, p2, u2⟩ := ret2.ws
       clear ret2
       revert UP b0 b1 r0 hl hm hl' hm' b0_0 b0_1 b0_2 b1_0; refine lg12 u2 ?_; intro UP b0 b1 r0 hl hm hl' hm' b0_0 b0_1 b0_2 b1_0; revert b1_1 b1_2 r0_0 r0_1 r0_2; refine lg5 u2 ?_; intro b1_1 b1_2 r0_0 r0_1 r0_2
       try (replace p1 := p1.up u2)
       try (replace p2 := p2.up u2)
       try (replace q1 := q1.up u2)
       replace r0_f0 := r0.free
       clear u2
       rw [Wd.val_words, Wd.val_words] at p2
       obtain ⟨B2, x2, f2, rfl⟩ := p2.shape)
    | (go_at_call 24
       ((with_reducible refine (ref9_norm (Fr.mk' (k := 10000000) (!(s == t)) p1 p2 HQ.out (by omega) (by omega) (by omega)) (by omega)).mono ?_))
       rintro e W3 ⟨V3, rfl, q1, u3⟩
       revert UP b0 b1 r0 hl hm hl' hm' b0_0 b0_1 b0_2 b1_0; refine lg12 u3 ?_; intro UP b0 b1 r0 hl hm hl' hm' b0_0 b0_1 b0_2 b1_0; revert b1_1 b1_2 r0_0 r0_1 r0_2; refine lg5 u3 ?_; intro b1_1 b1_2 r0_0 r0_1 r0_2
       try (replace p1 := p1.up u3)
       try (replace p2 := p2.up u3)
       try (replace q1 := q1.up u3)
       replace r0_f0 := r0.free
       clear u3
       obtain ⟨Xq1, Yq1, rfl, q1, q1d⟩ := q1
       obtain ⟨Aq1, nq1, cq1, rfl⟩ := q1.shape
       obtain ⟨Aq1d, nq1d, cq1d, rfl⟩ := q1d.shape)))
 all_goals
  go_wp2
  exact end_rq rfl rfl rfl ⟨_, _, rfl, q1, q1d⟩ r0 trivial trivial trivial UP (by omega)
set_option maxRecDepth 100000 in
set_option maxHeartbeats 3200000 in
theorem ref9_quo {v u : Value} {q r : Rat} {j k : Nat} {w : World} (h : Qw w v q) (h' : Qw w u r) (lj : Wd.Lq q j) (lk : Wd.Lq r k) (hj : j ≤ 4000000) (hk : k ≤ 4000000) : Calls Tryz.prog 100 #[v, u] w (RetQ (q / r) w) := by
 have j1 : (Wd.words q.num.natAbs).length ≤ j := lj.1
 have j2 : (Wd.words q.den).length ≤ j := lj.2
 have k1 : (Wd.words r.num.natAbs).length ≤ k := lk.1
 have k2 : (Wd.words r.den).length ≤ k := lk.2
 have m1 := Wd.words_mul_le j1 k2
 have m2 := Wd.words_mul_le j2 k1
 have jp := lj.pos
 have HQ : Hid (mkRat (Wd.iv (!(Wd.ngb q.num == Wd.ngb r.num)) (Wd.val (Wd.words (q.num.natAbs * r.den)))) (Wd.val (Wd.words (q.den * r.num.natAbs))) = q / r) := Lib.hid (by
  rw [Wd.val_words, Wd.val_words]
  exact quo_law q r)
 obtain ⟨v1, v2, rfl, hl, hm⟩ := h
 obtain ⟨v3, v4, rfl, hl', hm'⟩ := h'
 obtain ⟨A, n, c, rfl⟩ := hl.shape
 obtain ⟨D, m, d, rfl⟩ := hm.shape
 obtain ⟨A', n', c', rfl⟩ := hl'.shape
 obtain ⟨D', m', d', rfl⟩ := hm'.shape
 generalize hs : Wd.ngb q.num = s at *
 generalize ht : Wd.ngb r.num = t at *
 clear hs ht lj lk
 have UP : Up w (((w.alloc (.cells #[.bool s, .slice A n c, .slice D m d] 24)).alloc (.cells #[.bool t, .slice A' n' c', .slice D' m' d'] 24)).alloc (.cells #[.bool false, .slice none 0 0, .slice none 0 0] 24)) := (((Up.refl w).alloc _).alloc _).alloc _
 obtain ⟨b0, b1, r0⟩ := bx_three 24 24 24 w [.bool s, .slice A n c, .slice D m d] [.bool t, .slice A' n' c', .slice D' m' d'] [.bool false, .slice none 0 0, .slice none 0 0]
 go_enter Tryz.func100, Tryz.ntmps100
 go_wp2_with fail
 generalize (((w.alloc (.cells #[.bool s, .slice A n c, .slice D m d] 24)).alloc (.cells #[.bool t, .slice A' n' c', .slice D' m' d'] 24)).alloc (.cells #[.bool false, .slice none 0 0, .slice none 0 0] 24)) = W at *
 refine li4 UP hl hm hl' hm' ?_
 clear hl hm hl' hm'
 intro hl hm hl' hm'
 obtain ⟨b0_0, b0_1, b0_2⟩ := b0.c3
 obtain ⟨b1_0, b1_1, b1_2⟩ := b1.c3
 obtain ⟨r0_0, r0_1, r0_2⟩ := r0.c3
 revert UP b0 b1 r0 hl hm hl' hm' b0_0 b0_1 b0_2 b1_0
 refine lg12 (Up.refl W).drew ?_
 intro UP b0 b1 r0 hl hm hl' hm' b0_0 b0_1 b0_2 b1_0
 revert b1_1 b1_2
 refine lg2 (Up.refl W).drew ?_
 intro b1_1 b1_2
 obtain ⟨r0_0, r0_1, r0_2⟩ := r0.c3
 have r0_f0 := r0.free
 go_region_held3 (fun w' => Up w w' ∧ w'.cell? ⟨w.heap.size, 0, none⟩ = some (.bool s) ∧ w'.cell? ⟨w.heap.size, 1, none⟩ = some (.slice A n c) ∧ w'.cell? ⟨w.heap.size, 2, none⟩ = some (.slice D m d) ∧ w'.cell? ⟨w.heap.size + 1, 0, none⟩ = some (.bool t) ∧ w'.cell? ⟨w.heap.size + 1, 1, none⟩ = some (.slice A' n' c') ∧ w'.cell? ⟨w.heap.size + 1, 2, none⟩ = some (.slice D' m' d'))
  (first | with_reducible exact ⟨UP, b0_0, b0_1, b0_2, b1_0, b1_1, b1_2⟩ | with_reducible exact ⟨(UP.alloc_drew _), (cAd b0_0), (cAd b0_1), (cAd b0_2), (cAd b1_0), (cAd b1_1), (cAd b1_2)⟩ | with_reducible exact ⟨(UP.alloc2_drew _ _), (cAe b0_0), (cAe b0_1), (cAe b0_2), (cAe b1_0), (cAe b1_1), (cAe b1_2)⟩ | ((try simp only [← World.setCell_drew]); first | with_reducible exact ⟨(us (us (us UP))), (cf (cf (cf b0_0))), (cf (cf (cf b0_1))), (cf (cf (cf b0_2))), (cf (cf (cf b1_0))), (cf (cf (cf b1_1))), (cf (cf (cf b1_2)))⟩) | go_keep)
  ((first
    | (go_at_call 125
       ((with_reducible refine (ref_mul hl hm' (by omega) (by omega)).mono ?_))
       intro e W1 ret1
       obtain ⟨V1, rfl, p1, u1⟩ := ret1.ws
       clear ret1
       revert UP b0 b1 r0 hl hm hl' hm' b0_0 b0_1 b0_2 b1_0; refine lg12 u1 ?_; intro UP b0 b1 r0 hl hm hl' hm' b0_0 b0_1 b0_2 b1_0; revert b1_1 b1_2 r0_0 r0_1 r0_2; refine lg5 u1 ?_; intro b1_1 b1_2 r0_0 r0_1 r0_2
       try (replace p1 := p1.up u1)
       try (replace p2 := p2.up u1)
       try (replace q1 := q1.up u1)
       replace r0_f0 := r0.free
       clear u1
       rw [Wd.val_words, Wd.val_words] at p1
       obtain ⟨B1, x1, f1, rfl⟩ := p1.shape)
    | (go_at_call 125
       ((with_reducible refine (ref_mul hm hl' (by omega) (by omega)).mono ?_))
       intro e W2 ret2
       obtain ⟨V2, rfl, p2, u2⟩ := ret2.ws
       clear ret2
       revert UP b0 b1 r0 hl hm hl' hm' b0_0 b0_1 b0_2 b1_0; refine lg12 u2 ?_; intro UP b0 b1 r0 hl hm hl' hm' b0_0 b0_1 b0_2 b1_0; revert b1_1 b1_2 r0_0 r0_1 r0_2; refine lg5 u2 ?_; intro b1_1 b1_2 r0_0 r0_1 r0_2
       try (replace p1 := p1.up u2)
       try (replace p2 := p2.up u2)
       try (replace q1 := q1.up u2)
       replace r0_f0 := r0.free
       clear u2
       rw [Wd.val_words, Wd.val_words] at p2
       obtain ⟨B2, x2, f2, rfl⟩ := p2.shape)
    | (go_at_call 24
       ((with_reducible refine (ref9_norm (Fr.mk' (k := 10000000) (!(s == t)) p1 p2 HQ.out (by omega) (by omega) (by omega)) (by omega)).mono ?_))
       rintro e W3 ⟨V3, rfl, q1, u3⟩
       revert UP b0 b1 r0 hl hm hl' hm' b0_0 b0_1 b0_2 b1_0; refine lg12 u3 ?_; intro UP b0 b1 r0 hl hm hl' hm' b0_0 b0_1 b0_2 b1_0; revert b1_1 b1_2 r0_0 r0_1 r0_2; refine lg5 u3 ?_; intro b1_1 b1_2 r0_0 r0_1 r0_2
       try (replace p1 := p1.up u3)
       try (replace p2 := p2.up u3)
       try (replace q1 := q1.up u3)
       replace r0_f0 := r0.free
       clear u3
       obtain ⟨Xq1, Yq1, rfl, q1, q1d⟩ := q1
       obtain ⟨Aq1, nq1, cq1, rfl⟩ := q1.shape
       obtain ⟨Aq1d, nq1d, cq1d, rfl⟩ := q1d.shape)))
 all_goals
  go_wp2
  exact end_rq rfl rfl rfl ⟨_, _, rfl, q1, q1d⟩ r0 trivial trivial trivial UP (by omega)
end Go.Proofs.YtmmcffceeahemaaGreat
