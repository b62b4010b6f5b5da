/-
  Layer 15, the document's answers: values, whether one is 0, whether two are the same; what the program has is the document's.
  Layer 15: the quotient of two polynomials, and of two functions, by 0 too.
-/
import Derived.Test.YtmmcffceeahemaaGreatZtRefRatf3
import Derived.Test.YtmmcffceeahemaaGreatZtRefPoly4
import Derived.Test.YtmmcffceeahemaaGreatZtShort
import Derived.Test.YtmmcffceeahemaaGreatZtRatf3
set_option linter.unusedVariables false
set_option linter.unusedSimpArgs false
namespace Go.Proofs.YtmmcffceeahemaaGreat
open Go.RowKit
theorem end_rqb15 {fn : Func} {a : Act} {w0 w : World} {t t' : Tmp} {g : Nat} {q q' : Rat} {b b' s : Bool} {u d p1 p2 p3 : Value} (eq : q' = q) (eb : b' = b) (hres : fn.results = #[.cell t 24, .tmp t']) (ht : a.tmps.getD t undef = .pointer (some ⟨g, 0, none⟩)) (hb : a.tmps.getD t' undef = .bool b) (hd : a.defers = [])
 (h : Qw w (.agg #[.bool s, u, d]) q) (r : Bx 24 w g [p1, p2, p3]) (n1 : NoWord p1) (n2 : NoWord p2) (n3 : NoWord p3) (hu : Up w0 w) (hg : w0.heap.size ≤ g) :
 bodyPost Tryz.prog fn (RetQB q' b' w0) .ret a (((w.setCell ⟨g, 0, none⟩ (.bool s)).setCell ⟨g, 1, none⟩ u).setCell ⟨g, 2, none⟩ d) := by
 subst eq eb
 obtain ⟨r3, h3, u3⟩ := q_stored h r n1 n2 n3 hu hg
 exact bodyPost_ret (run_res_cell_tmp hres ht agg_rfrac_ size_rfrac_ r3 rfl) hd ⟨_, by rw [hb], h3, u3⟩
set_option maxRecDepth 100000 in
set_option maxHeartbeats 6400000 in
theorem ref_eval15 {v u v3 : Value} {U D : List Rat} {z : Rat} {k kz : Nat} {w : World} (h : QSq k w v U) (h2 : QSq k w u D) (hl : U.length ≤ 100) (hl2 : D.length ≤ 100) (hz : Qw w v3 z) (lz : Wd.Lq z kz) (hkz : kz ≤ 4000) (hk : k ≤ 4000) :
 Calls Tryz.prog 67 #[.agg #[v, u], v3] w (RetQB (Pq.E U z / Pq.E D z) (!decide (Pq.E D z = 0)) w) := by
 have e1 : U.length * (kz + k + 1) ≤ 100 * (kz + k + 1) := Nat.mul_le_mul_right _ hl
 have e2 : D.length * (kz + k + 1) ≤ 100 * (kz + k + 1) := Nat.mul_le_mul_right _ hl2
 have LEX : Wd.Lq (Pq.E U z) 900000 := (lq_eval lz U h.lq).mono (by omega)
 have LEY : Wd.Lq (Pq.E D z) 900000 := (lq_eval lz D h2.lq).mono (by omega)
 obtain ⟨EX, HEX⟩ : ∃ y, Hid (Pq.E U z = y) := ⟨_, Lib.hid rfl⟩
 obtain ⟨EY, HEY⟩ : ∃ y, Hid (Pq.E D z = y) := ⟨_, Lib.hid rfl⟩
 rw [HEX.out, HEY.out]
 rw [HEX.out] at LEX
 rw [HEY.out] at LEY
 obtain ⟨q, HQ⟩ : ∃ y, Hid (EX / EY = y) := ⟨_, Lib.hid rfl⟩
 clear e1 e2
 obtain ⟨A, c, rfl⟩ := h.form
 obtain ⟨B, d, rfl⟩ := h2.form
 obtain ⟨X3, Y3, rfl, x3, xd3⟩ := hz
 obtain ⟨A3, n3, c3, rfl⟩ := x3.shape
 obtain ⟨D3, p3, d3, rfl⟩ := xd3.shape
 have UP : Up w (((w.alloc (.cells #[.slice A U.length c, .slice B D.length d] 80)).alloc (.cells #[.bool (Wd.ngb z.num), .slice A3 n3 c3, .slice D3 p3 d3] 24)).alloc (.cells #[.bool false, .slice none 0 0, .slice none 0 0] 24)) := (((Up.refl w).alloc _).alloc _).alloc _
 obtain ⟨b0, b1, r0⟩ := bx_three 80 24 24 w [.slice A U.length c, .slice B D.length d] [.bool (Wd.ngb z.num), .slice A3 n3 c3, .slice D3 p3 d3] [.bool false, .slice none 0 0, .slice none 0 0]
 go_enter Tryz.func67, Tryz.ntmps67
 go_wp2_with fail
 generalize (((w.alloc (.cells #[.slice A U.length c, .slice B D.length d] 80)).alloc (.cells #[.bool (Wd.ngb z.num), .slice A3 n3 c3, .slice D3 p3 d3] 24)).alloc (.cells #[.bool false, .slice none 0 0, .slice none 0 0] 24)) = W at *
 revert h h2 x3 xd3
 refine lg4 UP ?_
 intro h h2 x3 xd3
 obtain ⟨b0_0, b0_1⟩ := b0.c2
 obtain ⟨b1_0, b1_1, b1_2⟩ := b1.c3
 obtain ⟨r0_0, r0_1, r0_2⟩ := r0.c3
 have r0_f0 := r0.free
 go_wp2_with fail
 ((with_reducible refine (ref_eval14 (Qk.of (qw_of x3 xd3) lz) h2 hl2 hkz hk).mono ?_))
 rintro e W1 ⟨V1, rfl, dn, u1⟩
 revert UP b0 b1 r0 h h2 x3 xd3 b0_0 b0_1 b1_0 b1_1
 refine lg12 u1 ?_
 intro UP b0 b1 r0 h h2 x3 xd3 b0_0 b0_1 b1_0 b1_1
 revert b1_2 r0_0 r0_1 r0_2
 refine lg4 u1 ?_
 intro b1_2 r0_0 r0_1 r0_2
 replace r0_f0 := r0.free
 clear u1
 rw [HEY.out] at dn
 obtain ⟨Xdn, Ydn, rfl, dn, dnd⟩ := dn
 obtain ⟨Adn, ndn, cdn, rfl⟩ := dn.shape
 obtain ⟨Adnd, ndnd, cdnd, rfl⟩ := dnd.shape
 have b0_0a := cA b0_0
 have b0_1a := cA b0_1
 have b1_0a := cA b1_0
 have b1_1a := cA b1_1
 have b1_2a := cA b1_2
 have r0_0a := cA r0_0
 have r0_f0a := r0.fa
 have r0_1a := cA r0_1
 have r0_2a := cA r0_2
 go_wp2_with fail
 clear b0_0a b0_1a b1_0a b1_1a b1_2a r0_0a r0_f0a r0_1a r0_2a
 have x6 := Bx.new 24 W1 [.bool (Wd.ngb EY.num), .slice Adn ndn cdn, .slice Adnd ndnd cdnd]
 have b0_lt_x6 := b0.lt
 have b1_lt_x6 := b1.lt
 have r0_lt_x6 := r0.lt
 have nu := ((Up.refl W1).alloc (.cells #[.bool (Wd.ngb EY.num), .slice Adn ndn cdn, .slice Adnd ndnd cdnd] 24))
 revert UP b0 b1 r0 h h2 x3 xd3 dn dnd
 revert nu
 refine lh10 ?_
 intro UP b0 b1 r0 h h2 x3 xd3 dn dnd
 generalize (W1.alloc (.cells #[.bool (Wd.ngb EY.num), .slice Adn ndn cdn, .slice Adnd ndnd cdnd] 24)) = W2 at *
 clear b0_0 b0_1 b1_0 b1_1 b1_2 r0_0 r0_1 r0_2
 obtain ⟨b0_0, b0_1⟩ := b0.c2
 obtain ⟨b1_0, b1_1, b1_2⟩ := b1.c3
 obtain ⟨r0_0, r0_1, r0_2⟩ := r0.c3
 replace r0_f0 := r0.free
 obtain ⟨x6_0, x6_1, x6_2⟩ := x6.c3
 ((with_reducible refine (ref9_zero (qw_of dn dnd)).mono ?_))
 rintro e W3 ⟨rfl, u3⟩
 clear x6_0 x6_1 x6_2
 revert x6 UP b0 b1 r0 h h2 x3 xd3 dn dnd b0_0
 refine lg12 u3 ?_
 intro x6 UP b0 b1 r0 h h2 x3 xd3 dn dnd b0_0
 revert b0_1 b1_0 b1_1 b1_2 r0_0 r0_1 r0_2
 refine lg7 u3 ?_
 intro b0_1 b1_0 b1_1 b1_2 r0_0 r0_1 r0_2
 replace r0_f0 := r0.free
 obtain ⟨x6_0, x6_1, x6_2⟩ := x6.c3
 clear u3
 by_cases h0 : EY = 0
 · have k1 : decide (EY = 0) = true := decide_eq_true h0
   have HQ0 : Hid (EX / EY = ((0 : Int) : Rat)) := Lib.hid (by rw [h0, Rat.div_def, Rat.inv_zero, Rat.mul_zero]; rfl)
   have HB0 : Hid ((!decide (EY = 0)) = false) := Lib.hid (by rw [k1]; rfl)
   rw [k1]
   clear h0 k1
   go_wp2_with fail
   ((with_reducible refine (ref9_int (n := 0) (by omega) _).mono ?_))
   rintro e W4 ⟨V4, rfl, o, u4⟩
   clear x6_0 x6_1 x6_2; revert x6 UP b0 b1 r0 h h2 x3 xd3 dn dnd b0_0; refine lg12 u4 ?_; intro x6 UP b0 b1 r0 h h2 x3 xd3 dn dnd b0_0; revert b0_1 b1_0 b1_1 b1_2 r0_0 r0_1 r0_2; refine lg7 u4 ?_; intro b0_1 b1_0 b1_1 b1_2 r0_0 r0_1 r0_2
   replace r0_f0 := r0.free
   obtain ⟨x6_0, x6_1, x6_2⟩ := x6.c3
   clear u4
   obtain ⟨P0, HP0⟩ : ∃ P, Hid (((0 : Int) : Rat) = P) := ⟨_, Lib.hid rfl⟩
   rw [HP0.out] at o HQ0
   obtain ⟨Xo, Yo, rfl, o, od⟩ := o
   obtain ⟨Ao, no, co, rfl⟩ := o.shape
   obtain ⟨Aod, nod, cod, rfl⟩ := od.shape
   go_wp2_with fail
   exact end_rqb15 HQ0.out HB0.out rfl rfl rfl rfl (qw_of o od) r0 trivial trivial trivial UP (by omega)
 · skip
   have k1 : decide (EY = 0) = false := decide_eq_false h0
   have HB0 : Hid ((!decide (EY = 0)) = true) := Lib.hid (by rw [k1]; rfl)
   rw [k1]
   clear h0 k1
   go_wp2_with fail
   clear x6_0 x6_1 x6_2; revert x6 UP b0 b1 r0 h h2 x3 xd3 dn dnd b0_0; refine lg12 (Up.refl W3).drew ?_; intro x6 UP b0 b1 r0 h h2 x3 xd3 dn dnd b0_0; revert b0_1 b1_0 b1_1 b1_2; refine lg4 (Up.refl W3).drew ?_; intro b0_1 b1_0 b1_1 b1_2
   obtain ⟨r0_0, r0_1, r0_2⟩ := r0.c3
   have r0_f0 := r0.free
   obtain ⟨x6_0, x6_1, x6_2⟩ := x6.c3
   refine wp_region_noPanic ?_
   refine wp_region_held_drew (S := fun w' => Up w w' ∧ w'.cell? ⟨w.heap.size, 0, none⟩ = some (.slice A U.length c) ∧ w'.cell? ⟨w.heap.size, 1, none⟩ = some (.slice B D.length d) ∧ w'.cell? ⟨w.heap.size + 1, 0, none⟩ = some (.bool (Wd.ngb z.num)) ∧ w'.cell? ⟨w.heap.size + 1, 1, none⟩ = some (.slice A3 n3 c3) ∧ w'.cell? ⟨w.heap.size + 1, 2, none⟩ = some (.slice D3 p3 d3) ∧ w'.cell? ⟨W1.heap.size, 0, none⟩ = some (.bool (Wd.ngb EY.num)) ∧ w'.cell? ⟨W1.heap.size, 1, none⟩ = some (.slice Adn ndn cdn) ∧ w'.cell? ⟨W1.heap.size, 2, none⟩ = some (.slice Adnd ndnd cdnd)) (by kernel_rfl) ?_ (fun hHeld => ?_)
   · with_reducible exact ⟨UP, b0_0, b0_1, b1_0, b1_1, b1_2, x6_0, x6_1, x6_2⟩
   refine tk 0 ?_
   try simp only [gs, Act.put]
   refine tk 1 ?_
   try simp only [gs, Act.put]
   refine tk 2 ?_
   try simp only [gs, Act.put]
   refine tk 4 ?_
   try simp only [gs, Act.put]
   refine rd 3 (fun K hK => ?_)
   go_simp
   (first
     | (go_at_call 34
        ((with_reducible refine (ref_eval14 (Qk.of (qw_of x3 xd3) lz) h hl hkz hk).mono ?_))
        rintro e W4 ⟨V4, rfl, a1, u4⟩
        clear x6_0 x6_1 x6_2; revert x6 UP b0 b1 r0 h h2 x3 xd3 dn dnd b0_0; refine lg12 u4 ?_; intro x6 UP b0 b1 r0 h h2 x3 xd3 dn dnd b0_0; revert b0_1 b1_0 b1_1 b1_2 r0_0 r0_1 r0_2; refine lg7 u4 ?_; intro b0_1 b1_0 b1_1 b1_2 r0_0 r0_1 r0_2
        try (replace a1 := a1.up u4)
        try (replace a3 := a3.up u4)
        replace r0_f0 := r0.free
        obtain ⟨x6_0, x6_1, x6_2⟩ := x6.c3
        clear u4
        rw [HEX.out] at a1))
   try go_wp2_with fail
   try clear hHeld
   refine hK.out _ _ ?_ (fun hHeld => ?_)
   · with_reducible exact ⟨UP, b0_0, b0_1, b1_0, b1_1, b1_2, x6_0, x6_1, x6_2⟩
   clear hK K
   try simp only [gs, Act.put]
   refine rd 5 (fun K hK => ?_)
   go_simp
   (first
     | (go_at_call 100
        ((with_reducible refine (ref9_quo a1 (qw_of dn dnd) LEX LEY (by omega) (by omega)).mono ?_))
        rintro e W5 ⟨V5, rfl, a3, u5⟩
        clear x6_0 x6_1 x6_2; revert x6 UP b0 b1 r0 h h2 x3 xd3 dn dnd b0_0; refine lg12 u5 ?_; intro x6 UP b0 b1 r0 h h2 x3 xd3 dn dnd b0_0; revert b0_1 b1_0 b1_1 b1_2 r0_0 r0_1 r0_2; refine lg7 u5 ?_; intro b0_1 b1_0 b1_1 b1_2 r0_0 r0_1 r0_2
        try (replace a1 := a1.up u5)
        try (replace a3 := a3.up u5)
        replace r0_f0 := r0.free
        obtain ⟨x6_0, x6_1, x6_2⟩ := x6.c3
        clear u5
        rw [HQ.out] at a3
        obtain ⟨Xa3, Ya3, rfl, a3, a3d⟩ := a3
        obtain ⟨Aa3, na3, ca3, rfl⟩ := a3.shape
        obtain ⟨Aa3d, na3d, ca3d, rfl⟩ := a3d.shape))
   try go_wp2_with fail
   try clear hHeld
   refine hK.out _ _ ?_ (fun hHeld => ?_)
   · with_reducible exact ⟨UP, b0_0, b0_1, b1_0, b1_1, b1_2, x6_0, x6_1, x6_2⟩
   clear hK K
   try simp only [gs, Act.put]
   refine rd 6 (fun K hK => ?_)
   go_simp
   skip
   try go_wp2_with fail
   try clear hHeld
   refine hK.out _ _ ?_ (fun hHeld => ?_)
   · (first | with_reducible exact ⟨UP, b0_0, b0_1, b1_0, b1_1, b1_2, x6_0, x6_1, x6_2⟩ | with_reducible exact ⟨(us (us (us UP))), (cf (cf (cf b0_0))), (cf (cf (cf b0_1))), (cf (cf (cf b1_0))), (cf (cf (cf b1_1))), (cf (cf (cf b1_2))), (cf (cf (cf x6_0))), (cf (cf (cf x6_1))), (cf (cf (cf x6_2)))⟩)
   clear hK K
   try simp only [gs, Act.put]
   refine rd 7 (fun K hK => ?_)
   go_simp
   skip
   try go_wp2_with fail
   try clear hHeld
   refine hK.out _ _ ?_ (fun hHeld => ?_)
   · (first | with_reducible exact ⟨UP, b0_0, b0_1, b1_0, b1_1, b1_2, x6_0, x6_1, x6_2⟩ | with_reducible exact ⟨(us (us (us UP))), (cf (cf (cf b0_0))), (cf (cf (cf b0_1))), (cf (cf (cf b1_0))), (cf (cf (cf b1_1))), (cf (cf (cf b1_2))), (cf (cf (cf x6_0))), (cf (cf (cf x6_1))), (cf (cf (cf x6_2)))⟩)
   clear hK K
   try simp only [gs, Act.put]
   refine wpAnyH_done (by kernel_rfl) ?_ _
   refine NoPanic.normal ?_
   clear hHeld
   clear h h2
   go_wp2_with fail
   exact end_rqb15 HQ.out HB0.out rfl rfl rfl rfl (qw_of a3 a3d) r0 trivial trivial trivial UP (by omega)
set_option maxRecDepth 100000 in
set_option maxHeartbeats 3200000 in
theorem ref_zero15 {v u : Value} {U D : List Rat} {k : Nat} {w : World} (h : QSq k w v U) (h2 : QSq k w u D) {t : Bool} (HT : Hid (decide (U = []) = t)) :
 Calls Tryz.prog 70 #[.agg #[v, u]] w fun e w' => e = .returned (.bool t) ∧ Up w w' := by
 obtain ⟨A, c, rfl⟩ := h.form
 obtain ⟨B, d, rfl⟩ := h2.form
 have HL : Hid (((U.length : Int) == 0) = t) := Lib.hid (by
  rw [← HT.out]
  by_cases e : U = []
  · simp [e]
  · simp [e])
 generalize U.length = n at *
 have k1 : ((n : Int) == 0) = t := HL.out
 have UP : Up w (w.alloc (.cells #[.slice A n c, .slice B D.length d] 80)) := (Up.refl w).alloc _
 have b0 := Bx.new 80 w [.slice A n c, .slice B D.length d]
 go_enter Tryz.func70, Tryz.ntmps70
 go_wp2_with fail
 generalize (w.alloc (.cells #[.slice A n c, .slice B D.length d] 80)) = W at *
 obtain ⟨b0_0, b0_1⟩ := b0.c2
 go_ret
 exact ⟨rfl, UP⟩
set_option maxRecDepth 100000 in
set_option maxHeartbeats 3200000 in
theorem ref_same15 {v u v' u' : Value} {U D V F : List Rat} {k : Nat} {w : World} (h : QSq k w v U) (h2 : QSq k w u D) (h' : QSq k w v' V) (h2' : QSq k w u' F) (hl : U.length ≤ 1000) (hl2 : D.length ≤ 1000) (hl' : V.length ≤ 1000) (hl2' : F.length ≤ 1000) (hk : k ≤ 1000000) {t : Bool} (HT : Hid (decide (U = V ∧ D = F) = t)) :
 Calls Tryz.prog 73 #[.agg #[v, u], .agg #[v', u']] w fun e w' => e = .returned (.bool t) ∧ Up w w' := by
 obtain ⟨A1, c1, rfl⟩ := h.form
 obtain ⟨B1, d1, rfl⟩ := h2.form
 obtain ⟨A2, c2, rfl⟩ := h'.form
 obtain ⟨B2, d2, rfl⟩ := h2'.form
 obtain ⟨ta, HTA⟩ : ∃ t, Hid (decide (U = V) = t) := ⟨_, Lib.hid rfl⟩
 obtain ⟨tb, HTB⟩ : ∃ t, Hid (decide (D = F) = t) := ⟨_, Lib.hid rfl⟩
 have HE : Hid ((ta && tb) = t) := Lib.hid (by rw [← HT.out, ← HTA.out, ← HTB.out, Bool.decide_and])
 have UP : Up w ((w.alloc (.cells #[.slice A1 U.length c1, .slice B1 D.length d1] 80)).alloc (.cells #[.slice A2 V.length c2, .slice B2 F.length d2] 80)) := ((Up.refl w).alloc _).alloc _
 obtain ⟨b0, b1⟩ := bx_two 80 80 w [.slice A1 U.length c1, .slice B1 D.length d1] [.slice A2 V.length c2, .slice B2 F.length d2]
 go_enter Tryz.func73, Tryz.ntmps73
 go_wp2_with fail
 generalize ((w.alloc (.cells #[.slice A1 U.length c1, .slice B1 D.length d1] 80)).alloc (.cells #[.slice A2 V.length c2, .slice B2 F.length d2] 80)) = W at *
 revert h h2 h' h2'
 refine lg4 UP ?_
 intro h h2 h' h2'
 obtain ⟨b0_0, b0_1⟩ := b0.c2
 obtain ⟨b1_0, b1_1⟩ := b1.c2
 ((with_reducible refine (same_as h h' (by omega) (by omega) (by omega) HTA).mono ?_))
 rintro e W1 ⟨rfl, u1⟩
 revert UP b0 b1 h h2 h' h2' b0_0 b0_1 b1_0 b1_1
 revert u1
 refine lh11 ?_
 intro UP b0 b1 h h2 h' h2' b0_0 b0_1 b1_0 b1_1
 cases ta
 · go_wp2
   go_ret
   exact ⟨by rw [← HE.out]; rfl, UP⟩
 · skip
   go_wp2_with fail
   ((with_reducible refine (same_as h2 h2' (by omega) (by omega) (by omega) HTB).mono ?_))
   rintro e W2 ⟨rfl, u2⟩
   refine li11 u2 h h2 h' h2' b0 b1 UP b0_0 b0_1 b1_0 b1_1 ?_; clear h h2 h' h2' b0 b1 UP b0_0 b0_1 b1_0 b1_1 u2; intro h h2 h' h2' b0 b1 UP b0_0 b0_1 b1_0 b1_1
   go_wp2
   go_ret
   exact ⟨by rw [← HE.out]; rfl, UP⟩
set_option maxRecDepth 100000 in
set_option maxHeartbeats 3200000 in
theorem law_is15 {v u v' u' : Value} {U D : List Rat} {k : Nat} {w : World} (h : QSq k w v U) (h2 : QSq k w u D) (h' : QSq k w v' U) (h2' : QSq k w u' D) (hl : U.length ≤ 1000) (hl2 : D.length ≤ 1000) (hk : k ≤ 1000000) :
 Calls Tryz.prog 68 #[.agg #[v, u], .agg #[v', u']] w fun e w' => e = .returned (.bool true) ∧ Up w w' := by
 obtain ⟨A1, c1, rfl⟩ := h.form
 obtain ⟨B1, d1, rfl⟩ := h2.form
 obtain ⟨A2, c2, rfl⟩ := h'.form
 obtain ⟨B2, d2, rfl⟩ := h2'.form
 have UP : Up w ((w.alloc (.cells #[.slice A1 U.length c1, .slice B1 D.length d1] 84)).alloc (.cells #[.slice A2 U.length c2, .slice B2 D.length d2] 80)) := ((Up.refl w).alloc _).alloc _
 obtain ⟨b0, b1⟩ := bx_two 84 80 w [.slice A1 U.length c1, .slice B1 D.length d1] [.slice A2 U.length c2, .slice B2 D.length d2]
 go_enter Tryz.func68, Tryz.ntmps68
 go_wp2_with fail
 generalize ((w.alloc (.cells #[.slice A1 U.length c1, .slice B1 D.length d1] 84)).alloc (.cells #[.slice A2 U.length c2, .slice B2 D.length d2] 80)) = W at *
 revert h h2 h' h2'
 refine lg4 UP ?_
 intro h h2 h' h2'
 obtain ⟨b0_0, b0_1⟩ := b0.c2
 obtain ⟨b1_0, b1_1⟩ := b1.c2
 ((with_reducible refine (is_yes h h' (by omega) (by omega)).mono ?_))
 rintro e W1 ⟨rfl, u1⟩
 revert UP b0 b1 h h2 h' h2' b0_0 b0_1 b1_0 b1_1
 revert u1
 refine lh11 ?_
 intro UP b0 b1 h h2 h' h2' b0_0 b0_1 b1_0 b1_1
 go_wp2_with fail
 ((with_reducible refine (is_yes h2 h2' (by omega) (by omega)).mono ?_))
 rintro e W2 ⟨rfl, u2⟩
 revert UP b0 b1 h h2 h' h2' b0_0 b0_1 b1_0 b1_1
 revert u2
 refine lh11 ?_
 intro UP b0 b1 h h2 h' h2' b0_0 b0_1 b1_0 b1_1
 go_wp2
 go_ret
 exact ⟨rfl, UP⟩
end Go.Proofs.YtmmcffceeahemaaGreat
namespace Pq
theorem pu_nil {p q : List Rat} (h : nm q = []) : pu p q = [] := if_pos h
theorem pd_nil {p q : List Rat} (h : nm q = []) : pd p q = [1] := if_pos h
end Pq
namespace Go.Proofs.YtmmcffceeahemaaGreat
open Go.RowKit
set_option maxRecDepth 100000 in
set_option maxHeartbeats 3200000 in
theorem ratf_newp {v u : Value} {p q P D : List Rat} {ka j m K : Nat} {w : World} (h : FSq ka w v p) (h2 : FSq ka w u q) (hl : p.length ≤ m) (hl2 : q.length ≤ m) (hm1 : 1 ≤ m) (hm : m ≤ 1000) (LJ : Pq.Lp (p ++ q) j) (hK : 2 * m * (j + 1) ≤ K) (hK2 : (m + 3) * (K + 1) ≤ 3000000) (hka : ka ≤ 2000000) (HP : Hid (Pq.pu p q = P)) (HD : Hid (Pq.pd p q = D)) {t : Bool} (HT : Hid ((!decide (Pq.nm q = [])) = t)) :
 Calls Tryz.prog 63 #[v, u] w (RetFnB t K m P D w) := by
 by_cases hq : Pq.nm q = []
 · have E1 : Hid (P = [] ∧ D = [1]) := Lib.hid ⟨by rw [← HP.out]; exact Pq.pu_nil hq, by rw [← HD.out]; exact Pq.pd_nil hq⟩
   have E2 : Hid (t = false) := Lib.hid (by rw [← HT.out, decide_eq_true hq]; rfl)
   obtain ⟨rfl, rfl⟩ := E1.out
   obtain rfl := E2.out
   have HC : Hid (Pq.Can [] [1] [] [1]) := Lib.hid (Pq.can_zero rfl)
   have HN1 : Hid (Pq.nm ([1] : List Rat) ≠ []) := Lib.hid (by rw [Pq.nm_one]; simp)
   have hK3 : 2 ≤ K := by
    have h1 : 2 * 1 * (0 + 1) ≤ 2 * m * (j + 1) := Nat.mul_le_mul (by omega) (by omega)
    omega
   have HLP : Hid (Pq.Lp ([] ++ [1]) K) := Lib.hid (Pq.lp_one_row.mono (by omega))
   have HLE : Hid (([] : List Rat).length ≤ m ∧ ([1] : List Rat).length ≤ m) := Lib.hid ⟨by simp, by simpa using hm1⟩
   obtain ⟨A, c, rfl⟩ := h.form
   obtain ⟨B, d, rfl⟩ := h2.form
   obtain ⟨z, HZ⟩ : ∃ z, Hid (((Pq.nm q).length : Int) - 1 = z) := ⟨_, Lib.hid rfl⟩
   have hz : z < 0 := by have := HZ.out; rw [hq] at this; simp at this; omega
   clear hq HP HD HT
   have UP : Up w (w.alloc (.cells #[.slice none 0 0, .slice none 0 0] 84)) := (Up.refl w).alloc _
   have r0 := Bx.new 84 w [.slice none 0 0, .slice none 0 0]
   go_enter Tryz.func63, Tryz.ntmps63
   go_wp2_with fail
   generalize (w.alloc (.cells #[.slice none 0 0, .slice none 0 0] 84)) = W at *
   revert h h2; refine lg2 UP ?_; intro h h2
   obtain ⟨r0_0, r0_1⟩ := r0.c2
   have r0_f0 := r0.free
   go_wp2_with fail
   ((with_reducible refine (poly_degree h2.sq (by omega) (by omega)).mono ?_))
   rintro e W1 ⟨rfl, u1⟩
   revert UP r0 h h2 r0_0 r0_1; refine lg6 u1 ?_; intro UP r0 h h2 r0_0 r0_1
   replace r0_f0 := r0.free
   clear u1
   rw [HZ.out]
   go_wp2_with fail
   ((with_reducible refine (ratf_one _).mono ?_))
   rintro e W2 ⟨V2, rfl, o, u2⟩
   obtain ⟨Ao, co, rfl⟩ := o.form
   revert UP r0 h h2 r0_0 r0_1; refine lg6 u2 ?_; intro UP r0 h h2 r0_0 r0_1
   replace r0_f0 := r0.free
   clear u2
   simp only [List.length_cons, List.length_nil, Nat.zero_add] at o
   clear h h2
   go_wp2_with fail
   have KW : Kw (W2) ((W2).setCell ⟨w.heap.size, 0, none⟩ (.slice none 0 0)) := Kw.store (c := (.slice none 0 0)) r0 rfl trivial _
   replace o := o.stored r0 (by decide) KW
   replace r0 : Bx 84 ((W2).setCell ⟨w.heap.size, 0, none⟩ (.slice none 0 0)) (w.heap.size) [.slice none 0 0, .slice none 0 0] := r0.set 0 (.slice none 0 0)
   replace UP := UP.setCell (p := ⟨w.heap.size, 0, none⟩) (by dsimp only; omega) (.slice none 0 0)
   have KW : Kw (((W2).setCell ⟨w.heap.size, 0, none⟩ (.slice none 0 0))) ((((W2).setCell ⟨w.heap.size, 0, none⟩ (.slice none 0 0))).setCell ⟨w.heap.size, 1, none⟩ (.slice Ao 1 co)) := Kw.store (c := (.slice none 0 0)) r0 rfl trivial _
   replace o := o.stored r0 (by decide) KW
   replace r0 : Bx 84 ((((W2).setCell ⟨w.heap.size, 0, none⟩ (.slice none 0 0))).setCell ⟨w.heap.size, 1, none⟩ (.slice Ao 1 co)) (w.heap.size) [.slice none 0 0, .slice Ao 1 co] := r0.set 1 (.slice Ao 1 co)
   replace UP := UP.setCell (p := ⟨w.heap.size, 1, none⟩) (by dsimp only; omega) (.slice Ao 1 co)
   clear KW
   generalize ((((W2).setCell ⟨w.heap.size, 0, none⟩ (.slice none 0 0))).setCell ⟨w.heap.size, 1, none⟩ (.slice Ao 1 co)) = W3 at *
   clear r0_0 r0_1
   obtain ⟨r0_0, r0_1⟩ := r0.c2
   exact bodyPost_ret (run_res_cell_tmp rfl rfl agg_fun size_fun r0 rfl) rfl ⟨_, _, _, _, rfl, OwnQ.nil _ _ _ _, o.mono hK3, HC, HLP, HLE, UP⟩
 · have E1 : Hid (P = p ∧ D = q) := Lib.hid ⟨by rw [← HP.out]; exact Pq.pu_of hq, by rw [← HD.out]; exact Pq.pd_of hq⟩
   have E2 : Hid (t = true) := Lib.hid (by rw [← HT.out, decide_eq_false hq]; rfl)
   obtain ⟨rfl, rfl⟩ := E1.out
   obtain rfl := E2.out
   exact ratf_new h h2 (Lib.hid hq) hl hl2 hm LJ hK hK2 hka
end Go.Proofs.YtmmcffceeahemaaGreat
