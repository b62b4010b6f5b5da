/-
  Layer 15: both parts; cancelled; made of two polynomials.
-/
import Derived.Test.YtmmcffceeahemaaGreatZtPolyRaw
import Derived.Test.YtmmcffceeahemaaGreatZtRatfMath
import Derived.Test.YtmmcffceeahemaaGreatZtShort
set_option linter.unusedVariables false
set_option linter.unusedSimpArgs false
namespace Go.Proofs.YtmmcffceeahemaaGreat
open Go.RowKit
theorem fs_one {k : Nat} {w : World} {g : Nat} {s1 : Bool} {u1 d1 : Value} {q1 : Rat} (hb : Bx 34 w g [.bool s1, u1, d1]) (h1 : Fr w (.agg #[.bool s1, u1, d1]) q1 k) : FSq k w (.slice (some ⟨g, 0, none⟩) 1 1) [q1] :=
 fs_row (xs := [⟨s1, u1, d1⟩]) hb (Al.one (R := fun x q => Frk k w x.agg q) (x := ⟨s1, u1, d1⟩) h1) (by simp)
/-- A row of right fractions that stands alone. -/
def ARow (k : Nat) (w : World) (v : Value) (qs : List Rat) : Prop := OwnQ (Qk k) 34 0 w v qs
theorem ARow.up {k : Nat} {w w' : World} {v : Value} {qs : List Rat} (h : ARow k w v qs) (hu : Up w w') : ARow k w' v qs := OwnQ.up (kp_qk k) h hu
instance ARow.lup {k : Nat} {w w' : World} {v : Value} {qs : List Rat} : Lu (Up w w') (ARow k w v qs) (ARow k w' v qs) := luM fun u h => h.up u
theorem ARow.form {k : Nat} {w : World} {v : Value} {qs : List Rat} (h : ARow k w v qs) : ∃ A c, v = .slice A qs.length c := OwnQ.form h
theorem PRow.a {k : Nat} {w0 w : World} {v : Value} {qs : List Rat} (h : PRow k w0 w v qs) : ARow k w v qs := OwnQ.weaken h (Nat.zero_le _)
theorem ARow.fs {k : Nat} {w : World} {v : Value} {qs : List Rat} (h : ARow k w v qs) : FSq k w v qs := Sq.imp (OwnQ.sq h) fun hx => hx.1.fr hx.2
theorem ARow.mono {j k : Nat} {w : World} {v : Value} {qs : List Rat} (h : ARow j w v qs) (hk : j ≤ k) : ARow k w v qs := OwnQ.imp h fun hx => hx.mono hk
theorem a_row {k : Nat} {w : World} {g : Nat} {xs : List F3} {qs : List Rat} (hb : Bx 34 w g (fcells xs)) (ha : Al (fun x q => Qk k w x.agg q) xs qs) (hl : qs.length ≤ 1000000) : ARow k w (.slice (some ⟨g, 0, none⟩) qs.length qs.length) qs := by
 have hok : ∀ x ∈ xs, x.ok := fun x hx => by
  obtain ⟨j, hj⟩ := List.getElem?_of_mem hx
  have hjl : j < qs.length := by rw [← ha.1]; exact (List.getElem?_eq_some_iff.1 hj).1
  obtain ⟨z, e, hz⟩ := (kp_qk k).form (ha.2 j x _ hj (List.getElem?_eq_getElem hjl))
  rw [F3.agg_inj e]
  exact hz
 have : OwnQ (Qk k) 34 0 w (.slice (some ⟨g, 0, none⟩) xs.length xs.length) qs := ⟨xs, ha, hok, .inr ⟨g, [], rfl, Nat.zero_le _, by rw [List.append_nil]; exact hb, by simp, by rw [ha.1]; simp [maxLen]; omega⟩⟩
 rw [ha.1] at this
 exact this
theorem a_one {k : Nat} {w : World} {g : Nat} {s1 : Bool} {u1 d1 : Value} {q1 : Rat} (hb : Bx 34 w g [.bool s1, u1, d1]) (h1 : Qw w (.agg #[.bool s1, u1, d1]) q1) (hk : Wd.Lq q1 k) : ARow k w (.slice (some ⟨g, 0, none⟩) 1 1) [q1] :=
 a_row (xs := [⟨s1, u1, d1⟩]) hb (Al.one (R := fun x q => Qk k w x.agg q) (x := ⟨s1, u1, d1⟩) ⟨h1, hk⟩) (by simp)
def RetA (k : Nat) (qs : List Rat) (w : World) (e : Ending) (w' : World) : Prop := ∃ v, e = .returned v ∧ ARow k w' v qs ∧ Up w w'
theorem lq_one : Wd.Lq 1 2 := lq_int (n := 1) (by omega)
set_option maxRecDepth 100000 in
set_option maxHeartbeats 1600000 in
theorem ratf_one (w : World) : Calls Tryz.prog 128 #[] w (RetA 2 [1] w) := by
 obtain ⟨P1, HP1⟩ : ∃ P, Hid (((1 : Int) : Rat) = P) := ⟨_, Lib.hid rfl⟩
 have L1 : Wd.Lq P1 2 := by rw [← HP1.out]; exact lq_int (by omega)
 have H1 : Hid (P1 = 1) := Lib.hid (by rw [← HP1.out]; rfl)
 have UP : Up w w := Up.refl w
 go_enter Tryz.func128, Tryz.ntmps128
 go_wp2_with fail
 ((with_reducible refine (frac_of (n := 1) (by omega) _).mono ?_))
 rintro e W1 ⟨V1, rfl, o, u1⟩
 replace UP := UP.trans u1
 clear u1
 rw [HP1.out] at o
 obtain ⟨Xo, Yo, rfl, o, od⟩ := o
 obtain ⟨Ao, no, co, rfl⟩ := o.shape
 obtain ⟨Aod, nod, cod, rfl⟩ := od.shape
 go_wp2_with fail
 have s1 := Bx.new 34 W1 [.bool (Wd.ngb P1.num), .slice Ao no co, .slice Aod nod cod]
 have nu := ((Up.refl W1).alloc (.cells #[.bool (Wd.ngb P1.num), .slice Ao no co, .slice Aod nod cod] 34))
 revert UP o od
 revert nu
 refine lh3 ?_
 intro UP o od
 generalize (W1.alloc (.cells #[.bool (Wd.ngb P1.num), .slice Ao no co, .slice Aod nod cod] 34)) = W2 at *
 obtain ⟨s1_0, s1_1, s1_2⟩ := s1.c3
 go_ret
 have F := a_one s1 (qw_of o od) L1
 rw [H1.out] at F
 exact ⟨_, rfl, F, UP⟩
/-- Both parts come back. -/
def RetPP (k : Nat) (p q : List Rat) (w : World) (e : Ending) (w' : World) : Prop := ∃ V U, e = .returned (.tuple #[V, U]) ∧ FSq k w' V p ∧ FSq k w' U q ∧ Up w w'
set_option maxRecDepth 100000 in
set_option maxHeartbeats 1600000 in
theorem ratf_parts {v u : Value} {p q : List Rat} {k : Nat} {w : World} (h : FSq k w v p) (h2 : FSq k w u q) (hl : q.length ≤ 1000) (hk : k ≤ 4000000) (hk2 : 2 ≤ k) {PU PD : List Rat} (HPU : Hid (Pq.pu p q = PU)) (HPD : Hid (Pq.pd p q = PD)) : Calls Tryz.prog 133 #[.agg #[v, u]] w (RetPP k PU PD w) := by
 obtain ⟨A, c, rfl⟩ := h.form
 obtain ⟨B, d, rfl⟩ := h2.form
 obtain ⟨z, HZ⟩ : ∃ z, Hid (((Pq.nm q).length : Int) - 1 = z) := ⟨_, Lib.hid rfl⟩
 have HN := Lib.hid (List.length_eq_zero_iff (l := Pq.nm q))
 by_cases hz : z < 0
 · have H0 : Hid (Pq.nm q = []) := Lib.hid (HN.out.1 (by have := HZ.out; omega))
   have E1 : Hid (PU = [] ∧ PD = [1]) := Lib.hid ⟨by rw [← HPU.out]; exact if_pos H0.out, by rw [← HPD.out]; exact if_pos H0.out⟩
   have UP : Up w (w.alloc (.cells #[.slice A p.length c, .slice B q.length d] 84)) := (Up.refl w).alloc _
   have b0 := Bx.new 84 w [.slice A p.length c, .slice B q.length d]
   go_enter Tryz.func133, Tryz.ntmps133
   go_wp2_with fail
   generalize (w.alloc (.cells #[.slice A p.length c, .slice B q.length d] 84)) = W at *
   revert h h2; refine lg2 UP ?_; intro h h2
   obtain ⟨b0_0, b0_1⟩ := b0.c2
   go_wp2_with fail
   ((with_reducible refine (poly_degree h2.sq (by omega) (by omega)).mono ?_))
   rintro e W1 ⟨rfl, u1⟩
   revert UP b0 h h2 b0_0 b0_1; revert u1; refine lh6 ?_; intro UP b0 h h2 b0_0 b0_1
   rw [HZ.out]
   go_wp2_with fail
   ((with_reducible refine (ratf_one _).mono ?_))
   rintro e W2 ⟨V2, rfl, o, u2⟩
   obtain ⟨Ao, co, rfl⟩ := o.form
   revert UP b0 h h2 b0_0 b0_1; revert u2; refine lh6 ?_; intro UP b0 h h2 b0_0 b0_1
   go_wp2
   go_ret2
   rw [E1.out.1, E1.out.2]
   exact ⟨_, _, rfl, fs_nil _ _, o.fs.mono hk2, UP⟩
 · have H0 : Hid (Pq.nm q ≠ []) := Lib.hid (fun e => by have := HN.out.2 e; have := HZ.out; omega)
   have E1 : Hid (PU = p ∧ PD = q) := Lib.hid ⟨by rw [← HPU.out]; exact if_neg H0.out, by rw [← HPD.out]; exact if_neg H0.out⟩
   have UP : Up w (w.alloc (.cells #[.slice A p.length c, .slice B q.length d] 84)) := (Up.refl w).alloc _
   have b0 := Bx.new 84 w [.slice A p.length c, .slice B q.length d]
   go_enter Tryz.func133, Tryz.ntmps133
   go_wp2_with fail
   generalize (w.alloc (.cells #[.slice A p.length c, .slice B q.length d] 84)) = W at *
   revert h h2; refine lg2 UP ?_; intro h h2
   obtain ⟨b0_0, b0_1⟩ := b0.c2
   go_wp2_with fail
   ((with_reducible refine (poly_degree h2.sq (by omega) (by omega)).mono ?_))
   rintro e W1 ⟨rfl, u1⟩
   revert UP b0 h h2 b0_0 b0_1; revert u1; refine lh6 ?_; intro UP b0 h h2 b0_0 b0_1
   rw [HZ.out]
   go_wp2_with fail
   revert UP b0 h h2 b0_0 b0_1; refine lg6 (Up.refl W1).drew ?_; intro UP b0 h h2 b0_0 b0_1
   go_region_held3 (fun w' => Up w w' ∧ w'.cell? ⟨w.heap.size, 0, none⟩ = some (.slice A p.length c) ∧ w'.cell? ⟨w.heap.size, 1, none⟩ = some (.slice B q.length d))
    (first | with_reducible exact ⟨UP, b0_0, b0_1⟩ | with_reducible exact ⟨(UP.alloc_drew _), (cAd b0_0), (cAd b0_1)⟩ | with_reducible exact ⟨(UP.alloc2_drew _ _), (cAe b0_0), (cAe b0_1)⟩ | go_keep)
    (fail)
   go_wp2_with fail
   go_ret2
   rw [E1.out.1, E1.out.2]
   exact ⟨_, _, rfl, h, h2, UP⟩
theorem poly_norm_as {v : Value} {qs R : List Rat} {ka K : Nat} {w : World} (h : FSq ka w v qs) (hl : qs.length ≤ 10000) (hka : ka ≤ 10000000) (HR : Hid (Pq.nm qs = R)) (HL : Hid (∀ x ∈ R, Wd.Lq x K)) : Calls Tryz.prog 28 #[v] w (RetP K R w) := by
 rw [← HR.out] at HL ⊢
 exact (poly_norm h.sq (by omega) hka).mono fun e w' h => h.re HL.out
theorem poly_scale_as {vc v : Value} {c : Rat} {qs R : List Rat} {kc ka K : Nat} {w : World} (hc : Fr w vc c kc) (h : FSq ka w v qs) (hl : qs.length ≤ 10000) (hkc : kc ≤ 4000000) (hka : ka ≤ 4000000) (HR : Hid (Pq.nm (Pq.sc c qs) = R)) (HL : Hid (∀ x ∈ R, Wd.Lq x K)) : Calls Tryz.prog 41 #[vc, v] w (RetP K R w) := by
 rw [← HR.out] at HL ⊢
 exact (poly_scale hc h.sq (by omega) hkc hka).mono fun e w' h => h.re HL.out
/-- A right function comes back: that of two polynomials. -/
def RetFn (K m : Nat) (p q : List Rat) (w : World) (e : Ending) (w' : World) : Prop := ∃ V U P Q, e = .returned (.agg #[V, U]) ∧ ARow K w' V P ∧ ARow K w' U Q ∧ Hid (Pq.Can p q P Q) ∧ Hid (Pq.Lp (P ++ Q) K) ∧ Hid (P.length ≤ m ∧ Q.length ≤ m) ∧ Up w w'
theorem ownq_not_bx {α : Type} {P : World → Value → α → Prop} {T S : TypeId} {base g : Nat} {w : World} {v : Value} {qs : List α} {vs : List Value} (h : OwnQ P T base w v qs) (hb : Bx S w g vs) (hne : T ≠ S) : v.ownBlock ≠ some g := by
 obtain ⟨xs, ha, hr⟩ := h
 rcases hr.2 with ⟨rfl, rfl⟩ | ⟨g', ys, rfl, hb2, hx, hy, hm⟩
 · simp [Value.ownBlock]
 · intro e
   simp [Value.ownBlock] at e
   subst e
   unfold Bx at hb hx
   rw [hb] at hx
   simp at hx
   exact hne hx.2.symm
theorem PRow.stored {k : Nat} {w0 w : World} {v x : Value} {qs : List Rat} {S : TypeId} {g i : Nat} {vs : List Value} (h : PRow k w0 w v qs) (hb : Bx S w g vs) (hne : 34 ≠ S) (hk : Kw w (w.setCell ⟨g, i, none⟩ x)) : PRow k w0 (w.setCell ⟨g, i, none⟩ x) v qs :=
 OwnQ.kept (kp_qk k) h hk (row := some g) ⟨rfl, rfl, rfl, by simp [World.setCell], fun j hj hj2 => Below.heap_setCell _ _ _ _ (by simp; exact fun e => hj2 (by rw [e]))⟩ (.inr (ownq_not_bx h hb hne))
theorem ARow.stored {k : Nat} {w : World} {v x : Value} {qs : List Rat} {S : TypeId} {g i : Nat} {vs : List Value} (h : ARow k w v qs) (hb : Bx S w g vs) (hne : 34 ≠ S) (hk : Kw w (w.setCell ⟨g, i, none⟩ x)) : ARow k (w.setCell ⟨g, i, none⟩ x) v qs :=
 OwnQ.kept (kp_qk k) h hk (row := some g) ⟨rfl, rfl, rfl, by simp [World.setCell], fun j hj hj2 => Below.heap_setCell _ _ _ _ (by simp; exact fun e => hj2 (by rw [e]))⟩ (.inr (ownq_not_bx h hb hne))
theorem agg_fun (w : World) : (isAgg 84).run Tryz.prog w = .ok true w := by kernel_rfl
theorem size_fun (w : World) : (sizeOf 84).run Tryz.prog w = .ok 2 w := by kernel_rfl
set_option maxRecDepth 100000 in
set_option maxHeartbeats 6400000 in
theorem ratf_cancel {v u : Value} {p q : List Rat} {ka j m K : Nat} {w : World} (h : FSq ka w v p) (h2 : FSq ka w u q) (hq : Hid (Pq.nm q ≠ [])) (hl : p.length ≤ m) (hl2 : q.length ≤ m) (hm : m ≤ 1000) (LJ : Pq.Lp (p ++ q) j) (hK : 2 * m * (j + 1) ≤ K) (hK2 : (m + 3) * (K + 1) ≤ 3000000) (hka : ka ≤ 2000000) :
 Calls Tryz.prog 129 #[v, u] w (RetFn K m p q w) := by
 have hm1 : 1 ≤ m := by have := Pq.ln_pos hq.out; have := Pq.ln_le q; omega
 have hjK : j ≤ K := by
  have : 1 * (j + 1) ≤ 2 * m * (j + 1) := Nat.mul_le_mul_right _ (by omega)
  omega
 have hexp : (m + 3) * (K + 1) = (m + 1) * (K + 1) + 2 * (K + 1) := by rw [show m + 3 = m + 1 + 2 by omega, Nat.add_mul]
 have LP := Lib.hid LJ.fst
 have LQ := Lib.hid LJ.snd
 have HKG : Hid (∀ n, (∀ i, i < n → (Pq.gst p q i).2 ≠ []) → Pq.Lp (Pq.gst p q n).1 K ∧ Pq.Lp (Pq.gst p q n).2 K) := Lib.hid (fun n hn => Pq.gst_small LP.out LQ.out hl hl2 (by omega) hK hjK n hn)
 have HSM : Hid (∀ U D, Pq.Can p q U D → Pq.Lp (U ++ D) K) := Lib.hid (fun U D hc => (Pq.can_small hq.out hc LJ (Nat.le_trans (Pq.ln_le _) hl) (Nat.le_trans (Pq.ln_le _) hl2) (by omega)).mono hK)
 have HLE : Hid (∀ U D, Pq.Can p q U D → Hid (U.length ≤ m ∧ D.length ≤ m)) := Lib.hid (fun U D hc => Lib.hid ⟨Nat.le_trans (hc.len hq.out).2 (Nat.le_trans (Pq.ln_le _) hl), Nat.le_trans (hc.len hq.out).1 (Nat.le_trans (Pq.ln_le _) hl2)⟩)
 obtain ⟨K', hK'⟩ : ∃ K', K' = 2 * K + (m + 1) * (K + 1) := ⟨_, rfl⟩
 have hK'2 : K' ≤ 3000000 := by omega
 have hgK : 2 * K + (m + 1) * (K + 1) ≤ 3000000 := by omega
 have hD1 : Hid (∀ n, n ≤ m → j + K + (n + 1) * (K + 1) ≤ K') := Lib.hid (fun n hn => by
  have : (n + 1) * (K + 1) ≤ (m + 1) * (K + 1) := Nat.mul_le_mul_right _ (by omega)
  omega)
 obtain ⟨A, c, rfl⟩ := h.form
 obtain ⟨B, d, rfl⟩ := h2.form
 have UP : Up w (w.alloc (.cells #[.slice none 0 0, .slice none 0 0] 84)) := (Up.refl w).alloc _
 have r0 := Bx.new 84 w [.slice none 0 0, .slice none 0 0]
 go_enter Tryz.func129, Tryz.ntmps129
 go_wp2_with fail
 generalize (w.alloc (.cells #[.slice none 0 0, .slice none 0 0] 84)) = W at *
 revert h h2
 refine lg2 UP ?_
 intro h h2
 obtain ⟨r0_0, r0_1⟩ := r0.c2
 have r0_f0 := r0.free
 go_wp2_with fail
 ((with_reducible refine (poly_gcd h h2 hl hl2 (by omega) LP.out LQ.out HKG hgK (by omega) (by omega)).mono ?_))
 rintro e W1 ⟨V1, gg, rfl, g, ig, lg, ng, u1⟩
 obtain ⟨Ag, cg, rfl⟩ := g.form
 replace ig := Lib.hid ig
 replace lg := Lib.hid lg
 revert UP r0 h h2 r0_0 r0_1
 refine lg6 u1 ?_
 intro UP r0 h h2 r0_0 r0_1
 replace r0_f0 := r0.free
 clear u1
 have hgne : Hid (gg ≠ []) := Lib.hid (ig.out.ne (.inr hq.out))
 have HGN : Hid (Pq.nm gg ≠ []) := Lib.hid (by rw [Pq.nm_of_tr ig.out.1.tr]; exact hgne.out)
 obtain ⟨z, HZ⟩ : ∃ z, Hid (((Pq.nm gg).length : Int) - 1 = z) := ⟨_, Lib.hid rfl⟩
 have hgm : gg.length ≤ m := by omega
 have g2 := g.fs
 clear g
 go_wp2_with fail
 ((with_reducible refine (poly_degree g2.sq (by omega) (by omega)).mono ?_))
 rintro e W2 ⟨rfl, u2⟩
 revert UP r0 h h2 r0_0 r0_1 g2
 refine lg7 u2 ?_
 intro UP r0 h h2 r0_0 r0_1 g2
 replace r0_f0 := r0.free
 clear u2
 rw [HZ.out]
 by_cases hz : z > 0
 · skip
   go_wp2_with fail
   ((with_reducible refine (poly_div h g2 (by omega) (by omega) LP.out lg.out (hD1.out _ hl) (by omega) (by omega) (by omega)).mono ?_))
   rintro e W3 ⟨V3, R3, rfl, x, y, u3⟩
   obtain ⟨Ax, cx, rfl⟩ := x.form
   obtain ⟨Ay, cy, rfl⟩ := y.form
   revert UP r0 h h2 r0_0 r0_1 g2; refine lg7 u3 ?_; intro UP r0 h h2 r0_0 r0_1 g2
   replace r0_f0 := r0.free
   clear u3
   go_wp2_with fail
   ((with_reducible refine (poly_div h2 g2 (by omega) (by omega) LQ.out lg.out (hD1.out _ hl2) (by omega) (by omega) (by omega)).mono ?_))
   rintro e W4 ⟨V4, R4, rfl, x2, y2, u4⟩
   obtain ⟨Ax2, cx2, rfl⟩ := x2.form
   obtain ⟨Ay2, cy2, rfl⟩ := y2.form
   revert x y UP r0 h h2 r0_0 r0_1 g2; refine lg9 u4 ?_; intro x y UP r0 h h2 r0_0 r0_1 g2
   replace r0_f0 := r0.free
   clear u4
   have fx := x.fs
   have fy := x2.fs
   clear x y x2 y2
   have HP := Lib.hid (Pq.div_exact ig.out.2.1 hgne.out ig.out.1)
   have HQ := Lib.hid (Pq.div_exact ig.out.2.2.1 hgne.out ig.out.1)
   have SQ : Hid (Pq.Lp (Pq.dq q gg) K') := Lib.hid ((Pq.dqr_size LQ.out lg.out).1.mono (hD1.out _ hl2))
   have HLQ : Hid ((Pq.dq q gg).length ≤ 1001) := Lib.hid (Nat.le_trans (Pq.dq_len _ _) (by omega))
   have HLP : Hid ((Pq.dq p gg).length ≤ 1001) := Lib.hid (Nat.le_trans (Pq.dq_len _ _) (by omega))
   have HNE : Hid (Pq.nm (Pq.dq q gg) ≠ []) := Lib.hid (fun e => hq.out (Pq.nm_nil fun x => by rw [HQ.out, Pq.E_of_nil e, Rat.zero_mul]))
   obtain ⟨Y, HY⟩ : ∃ r, Hid (Pq.nm (Pq.dq q gg) = r) := ⟨_, Lib.hid rfl⟩
   have LY : Hid (∀ x ∈ Y, Wd.Lq x K') := Lib.hid (by rw [← HY.out]; exact SQ.out.nm.lq)
   obtain ⟨t, HT⟩ : ∃ t, Hid (Y.length = t + 1) := ⟨Y.length - 1, Lib.hid (by have := List.length_pos_iff.2 HNE.out; rw [HY.out] at this; omega)⟩
   have HTY : Hid (t < Y.length) := Lib.hid (by have := HT.out; omega)
   have HYm : Hid (Y.length ≤ 1002) := Lib.hid (by rw [← HY.out]; exact Nat.le_trans (Pq.nm_len _) (by have := HLQ.out; omega))
   go_wp2_with fail
   ((with_reducible refine (poly_norm_as fy (by have := HLQ.out; omega) (by omega) HY LY).mono ?_))
   rintro e W5 ⟨V5, rfl, r, u5⟩
   obtain ⟨Ar, cr, rfl⟩ := r.form
   revert UP r0 h h2 r0_0 r0_1 g2 fx fy; refine lg9 u5 ?_; intro UP r0 h h2 r0_0 r0_1 g2 fx fy
   replace r0_f0 := r0.free
   clear u5
   have UPo := Lib.hid UP
   clear UP
   have UP := Up.refl W5
   have rf := r.fs
   obtain ⟨b, oo, s, B0, m0, f, D0, n', f', e0, hb, g1, g2, g3, FX⟩ := rf.sq.at_ (kp_fr K') HTY.out
   subst e0
   have LX := LY.out _ (List.getElem_mem HTY.out)
   have HXD : Hid (Y[t]'HTY.out = (Pq.nm (Pq.dq q gg)).getD ((Pq.nm (Pq.dq q gg)).length - 1) 0) := Lib.hid (by rw [HY.out, show Y.length - 1 = t by have := HT.out; omega, Pq.getD_at HTY.out])
   generalize Y[t]'HTY.out = x at *
   have FX : Fr W5 (.agg #[.bool s, .slice B0 m0 f, .slice D0 n' f']) x K' := FX
   have HOLD : Hid (∀ w', Up W5 w' → w'.cell? ⟨b, oo + t * 3, none⟩ = some (.bool s) ∧ w'.cell? ⟨b, oo + t * 3 + 1, none⟩ = some (.slice B0 m0 f) ∧ w'.cell? ⟨b, oo + t * 3 + 2, none⟩ = some (.slice D0 n' f')) := Lib.hid (fun w' hu => ⟨hu.keeps g1, hu.keeps g2, hu.keeps g3⟩)
   clear g1 g2 g3 hb r r0_0 r0_1 r0_f0
   have k3 : IntKind.i64.wrap ((Y.length : Int) - 1) = (t : Int) := by have := HT.out; have := HYm.out; rw [IntKind.wrap_i64]; omega
   have k5 : (t : Int) < (Y.length : Int) := by have := HTY.out; omega
   obtain ⟨P0, HP0⟩ : ∃ P, Hid (((1 : Int) : Rat) = P) := ⟨_, Lib.hid rfl⟩
   have LO : Wd.Lq P0 2 := by rw [← HP0.out]; exact lq_int (by omega)
   obtain ⟨cc, HC⟩ : ∃ c, Hid (P0 / x = c) := ⟨_, Lib.hid rfl⟩
   have LC : Wd.Lq cc (2 + K') := by rw [← HC.out]; exact LO.div LX
   have HX1 : Hid (cc = 1 / (Pq.nm (Pq.dq q gg)).getD ((Pq.nm (Pq.dq q gg)).length - 1) 0) := Lib.hid (by rw [← HC.out, ← HP0.out, HXD.out]; rfl)
   have HCN := Lib.hid (Pq.can_of hq.out ig.out.2.2.2 HGN.out HP.out HQ.out HX1.out)
   rw [HY.out] at HCN
   obtain ⟨R1, HR1⟩ : ∃ r, Hid (Pq.nm (Pq.sc cc (Pq.dq p gg)) = r) := ⟨_, Lib.hid rfl⟩
   obtain ⟨R2, HR2⟩ : ∃ r, Hid (Pq.nm (Pq.sc cc Y) = r) := ⟨_, Lib.hid rfl⟩
   rw [HR1.out, HR2.out] at HCN
   have HLR := Lib.hid (HSM.out _ _ HCN.out)
   have HL1 := Lib.hid HLR.out.fst.lq
   have HL2 := Lib.hid HLR.out.snd.lq
   obtain ⟨r0_0, r0_1⟩ := r0.c2
   have r0_f0 := r0.free
   have HFP := Lib.hid fx
   have HRF := Lib.hid rf
   clear fx rf
   go_wp2_with fail
   refine li5 (Up.refl W5).drew FX r0 UP r0_0 r0_1 ?_; clear FX r0 UP r0_0 r0_1; intro FX r0 UP r0_0 r0_1
   replace r0_f0 := r0.free
   refine wp_region_noPanic ?_
   refine wp_region_held_drew (S := fun w' => Up W5 w' ∧ w'.cell? ⟨w.heap.size, 0, none⟩ = some (.slice none 0 0) ∧ w'.cell? ⟨w.heap.size, 1, none⟩ = some (.slice none 0 0) ∧ (w'.cell? ⟨b, oo + t * 3, none⟩ = some (.bool s) ∧ w'.cell? ⟨b, oo + t * 3 + 1, none⟩ = some (.slice B0 m0 f) ∧ w'.cell? ⟨b, oo + t * 3 + 2, none⟩ = some (.slice D0 n' f'))) (by kernel_rfl) (by exact ⟨UP, r0_0, r0_1, HOLD.out _ UP⟩) (fun hHeld => ?_)
   clear hHeld
   generalize W5.drew = WC at *
   have hHeld : Up W5 WC ∧ WC.cell? ⟨w.heap.size, 0, none⟩ = some (.slice none 0 0) ∧ WC.cell? ⟨w.heap.size, 1, none⟩ = some (.slice none 0 0) ∧ (WC.cell? ⟨b, oo + t * 3, none⟩ = some (.bool s) ∧ WC.cell? ⟨b, oo + t * 3 + 1, none⟩ = some (.slice B0 m0 f) ∧ WC.cell? ⟨b, oo + t * 3 + 2, none⟩ = some (.slice D0 n' f')) := by exact ⟨UP, r0_0, r0_1, HOLD.out _ UP⟩
   refine tk 1 ?_
   try simp only [gs, Act.put]
   refine tk 2 ?_
   try simp only [gs, Act.put]
   refine tk 3 ?_
   try simp only [gs, Act.put]
   refine tk 4 ?_
   try simp only [gs, Act.put]
   refine tk 5 ?_
   try simp only [gs, Act.put]
   refine tk 6 ?_
   try simp only [gs, Act.put]
   repeat' first
    | (refine tk 8 ?_
       try simp only [gs, Act.put])
    | (refine tk 9 ?_
       try simp only [gs, Act.put])
    | (refine tk 10 ?_
       try simp only [gs, Act.put])
    | refine wpAnyH_ready (rs := [0, 11]) (by decide +kernel) (by simp) ?_
    | refine wpAnyH_ready (rs := [0]) (by decide +kernel) (by simp) ?_
    | refine wpAnyH_ready (rs := [7, 11]) (by decide +kernel) (by simp) ?_
    | refine wpAnyH_ready (rs := [7]) (by decide +kernel) (by simp) ?_
    | refine wpAnyH_ready (rs := [11]) (by decide +kernel) (by simp) ?_
    | refine wpAnyH_ready (rs := [12]) (by decide +kernel) (by simp) ?_
    | refine wpAnyH_ready (rs := [13]) (by decide +kernel) (by simp) ?_
    | refine AllReadyH.cons (i := 0) rfl (fun K hK0 => ?_) ?_
    | refine AllReadyH.cons (i := 7) rfl (fun K hK7 => ?_) ?_
    | refine AllReadyH.cons (i := 11) rfl (fun K hK11 => ?_) ?_
    | refine AllReadyH.cons (i := 12) rfl (fun K hK12 => ?_) ?_
    | refine AllReadyH.cons (i := 13) rfl (fun K hK13 => ?_) ?_
    | exact AllReadyH.nil
    | (have hK := hK0
       clear hK0
       (try clear hHeld)
       go_simp
       go_at_call 90
       ((with_reducible refine (frac_of (n := 1) (by omega) _).mono ?_))
       rintro e WD ⟨V0, rfl, o, uu⟩
       refine li3 uu FX r0 UP ?_; clear FX r0 UP; intro FX r0 UP
       try (replace y := y.up uu)
       try (replace od := od.up uu)
       try (replace yd := yd.up uu)
       try (replace x1 := x1.up uu)
       clear uu
       obtain ⟨WC, hWC⟩ : ∃ W, W = WD := ⟨_, rfl⟩
       subst hWC
       replace r0_f0 := r0.free
       clear r0_0 r0_1
       obtain ⟨r0_0, r0_1⟩ := r0.c2
       rw [HP0.out] at o
       obtain ⟨Xo, Yo, rfl, o, od⟩ := o
       obtain ⟨Ao, no, co, rfl⟩ := o.shape
       obtain ⟨Aod, nod, cod, rfl⟩ := od.shape
       try go_wp2_with fail
       refine hK.out _ _ (by exact ⟨UP, r0_0, r0_1, HOLD.out _ UP⟩) (fun hHeld => ?_)
       clear hK K
       try simp only [gs, Act.put])
    | (have hK := hK7
       clear hK7
       (try clear hHeld)
       go_simp
       go_at_call 116
       ((with_reducible refine (frac_quo ((qw_of o od).fr LO) FX (by omega) (by omega)).mono ?_))
       rintro e WD ⟨V7, rfl, y, uu⟩
       refine li3 uu FX r0 UP ?_; clear FX r0 UP; intro FX r0 UP
       try (replace o := o.up uu)
       try (replace od := od.up uu)
       try (replace yd := yd.up uu)
       try (replace x1 := x1.up uu)
       clear uu
       obtain ⟨WC, hWC⟩ : ∃ W, W = WD := ⟨_, rfl⟩
       subst hWC
       replace r0_f0 := r0.free
       clear r0_0 r0_1
       obtain ⟨r0_0, r0_1⟩ := r0.c2
       rw [HC.out] at y
       obtain ⟨Xy, Yy, rfl, y, yd⟩ := y
       obtain ⟨Ay, ny, cy, rfl⟩ := y.shape
       obtain ⟨Ayd, nyd, cyd, rfl⟩ := yd.shape
       try go_wp2_with fail
       refine hK.out _ _ (by exact ⟨UP, r0_0, r0_1, HOLD.out _ UP⟩) (fun hHeld => ?_)
       clear hK K
       try simp only [gs, Act.put])
    | (have hK := hK11
       clear hK11
       (try clear hHeld)
       go_simp
       have x1 := Bx.new 34 WC [.bool false, .slice none 0 0, .slice none 0 0]
       have r0_lt_x1 := r0.lt
       have x1_base := UP.size
       have nu := ((Up.refl WC).alloc (.cells #[.bool false, .slice none 0 0, .slice none 0 0] 34))
       refine li3 nu FX r0 UP ?_; clear FX r0 UP; intro FX r0 UP
       try (replace o := o.up nu)
       try (replace y := y.up nu)
       try (replace od := od.up nu)
       try (replace yd := yd.up nu)
       clear nu
       generalize WC.alloc (.cells #[.bool false, .slice none 0 0, .slice none 0 0] 34) = WD at *
       generalize WC.heap.size = gx1 at *
       obtain ⟨WC, hWC⟩ : ∃ W, W = WD := ⟨_, rfl⟩
       subst hWC
       replace r0_f0 := r0.free
       clear r0_0 r0_1
       obtain ⟨r0_0, r0_1⟩ := r0.c2
       refine hK.out _ _ (by exact ⟨UP, r0_0, r0_1, HOLD.out _ UP⟩) (fun hHeld => ?_)
       clear hK K
       try simp only [gs, Act.put])
    | (have hK := hK12
       clear hK12
       (try clear hHeld)
       obtain ⟨ce0, ce1, ce2⟩ := x1.c3
       have fr0 := x1.free 0
       have fr1 := x1.free 1
       have fr2 := x1.free 2
       go_simp
       clear ce0 ce1 ce2 fr0 fr1 fr2
       have KW : Kw (WC) ((WC).setCell ⟨gx1, 0, none⟩ (.bool (Wd.ngb cc.num))) := Kw.store (c := (.bool false)) x1 rfl trivial _
       replace FX := FX.kw KW
       try (replace o := o.kw KW)
       try (replace y := y.kw KW)
       try (replace od := od.kw KW)
       try (replace yd := yd.kw KW)
       replace r0 := r0.fr gx1 0 (.bool (Wd.ngb cc.num))
       replace x1 : Bx 34 ((WC).setCell ⟨gx1, 0, none⟩ (.bool (Wd.ngb cc.num))) (gx1) [.bool (Wd.ngb cc.num), .slice none 0 0, .slice none 0 0] := x1.set 0 (.bool (Wd.ngb cc.num))
       replace UP := UP.setCell (p := ⟨gx1, 0, none⟩) (by dsimp only; omega) (.bool (Wd.ngb cc.num))
       have KW : Kw (((WC).setCell ⟨gx1, 0, none⟩ (.bool (Wd.ngb cc.num)))) ((((WC).setCell ⟨gx1, 0, none⟩ (.bool (Wd.ngb cc.num)))).setCell ⟨gx1, 1, none⟩ (.slice Ay ny cy)) := Kw.store (c := (.slice none 0 0)) x1 rfl trivial _
       replace FX := FX.kw KW
       try (replace o := o.kw KW)
       try (replace y := y.kw KW)
       try (replace od := od.kw KW)
       try (replace yd := yd.kw KW)
       replace r0 := r0.fr gx1 1 (.slice Ay ny cy)
       replace x1 : Bx 34 ((((WC).setCell ⟨gx1, 0, none⟩ (.bool (Wd.ngb cc.num)))).setCell ⟨gx1, 1, none⟩ (.slice Ay ny cy)) (gx1) [.bool (Wd.ngb cc.num), .slice Ay ny cy, .slice none 0 0] := x1.set 1 (.slice Ay ny cy)
       replace UP := UP.setCell (p := ⟨gx1, 1, none⟩) (by dsimp only; omega) (.slice Ay ny cy)
       have KW : Kw (((((WC).setCell ⟨gx1, 0, none⟩ (.bool (Wd.ngb cc.num)))).setCell ⟨gx1, 1, none⟩ (.slice Ay ny cy))) ((((((WC).setCell ⟨gx1, 0, none⟩ (.bool (Wd.ngb cc.num)))).setCell ⟨gx1, 1, none⟩ (.slice Ay ny cy))).setCell ⟨gx1, 2, none⟩ (.slice Ayd nyd cyd)) := Kw.store (c := (.slice none 0 0)) x1 rfl trivial _
       replace FX := FX.kw KW
       try (replace o := o.kw KW)
       try (replace y := y.kw KW)
       try (replace od := od.kw KW)
       try (replace yd := yd.kw KW)
       replace r0 := r0.fr gx1 2 (.slice Ayd nyd cyd)
       replace x1 : Bx 34 ((((((WC).setCell ⟨gx1, 0, none⟩ (.bool (Wd.ngb cc.num)))).setCell ⟨gx1, 1, none⟩ (.slice Ay ny cy))).setCell ⟨gx1, 2, none⟩ (.slice Ayd nyd cyd)) (gx1) [.bool (Wd.ngb cc.num), .slice Ay ny cy, .slice Ayd nyd cyd] := x1.set 2 (.slice Ayd nyd cyd)
       replace UP := UP.setCell (p := ⟨gx1, 2, none⟩) (by dsimp only; omega) (.slice Ayd nyd cyd)
       clear KW
       generalize ((((((WC).setCell ⟨gx1, 0, none⟩ (.bool (Wd.ngb cc.num)))).setCell ⟨gx1, 1, none⟩ (.slice Ay ny cy))).setCell ⟨gx1, 2, none⟩ (.slice Ayd nyd cyd)) = WD at *
       obtain ⟨WC, hWC⟩ : ∃ W, W = WD := ⟨_, rfl⟩
       subst hWC
       replace r0_f0 := r0.free
       clear r0_0 r0_1
       obtain ⟨r0_0, r0_1⟩ := r0.c2
       refine hK.out _ _ (by exact ⟨UP, r0_0, r0_1, HOLD.out _ UP⟩) (fun hHeld => ?_)
       clear hK K
       try simp only [gs, Act.put])
    | (have hK := hK13
       clear hK13
       (try clear hHeld)
       go_simp
       refine hK.out _ _ (by exact ⟨UP, r0_0, r0_1, HOLD.out _ UP⟩) (fun hHeld => ?_)
       clear hK K
       try simp only [gs, Act.put])
    | refine wpAnyH_done (by decide +kernel) (NoPanic.normal ?_) _
    | fail
   all_goals try clear hHeld
   all_goals obtain ⟨x1_0, x1_1, x1_2⟩ := x1.c3
   all_goals
    have fp := HFP.out.up UP
    have rf := HRF.out.up UP
    replace UP := UPo.out.trans UP
    clear r0_0 r0_1 r0_f0 x1_0 x1_1 x1_2
    obtain ⟨r0_0, r0_1⟩ := r0.c2
    have r0_f0 := r0.free
    obtain ⟨x1_0, x1_1, x1_2⟩ := x1.c3
    go_wp2_with fail
    clear x1_0 x1_1 x1_2; refine li7 (Up.refl WC).drew fp rf y yd r0 x1 UP ?_; clear fp rf y yd r0 x1 UP; intro fp rf y yd r0 x1 UP
    obtain ⟨r0_0, r0_1⟩ := r0.c2
    have r0_f0 := r0.free
    obtain ⟨x1_0, x1_1, x1_2⟩ := x1.c3
    refine wp_region_noPanic ?_
    refine wp_region_held_drew (S := fun w' => Up w w' ∧ w'.cell? ⟨gx1, 0, none⟩ = some (.bool (Wd.ngb cc.num)) ∧ w'.cell? ⟨gx1, 1, none⟩ = some (.slice Ay ny cy) ∧ w'.cell? ⟨gx1, 2, none⟩ = some (.slice Ayd nyd cyd)) (by kernel_rfl) ?_ (fun hHeld => ?_)
    · with_reducible exact ⟨UP, x1_0, x1_1, x1_2⟩
    refine tk 0 ?_
    try simp only [gs, Act.put]
    refine tk 1 ?_
    try simp only [gs, Act.put]
    refine tk 3 ?_
    try simp only [gs, Act.put]
    refine tk 4 ?_
    try simp only [gs, Act.put]
    refine rd 2 (fun K hK => ?_)
    go_simp
    (first
      | (go_at_call 41
         ((with_reducible refine (poly_scale_as ((qw_of y yd).fr LC) fp (by have := HLP.out; omega) (by omega) (by omega) HR1 HL1).mono ?_))
         rintro e W51 ⟨V51, rfl, s1, u51⟩
         obtain ⟨As1, cs1, rfl⟩ := s1.form
         clear x1_0 x1_1 x1_2; revert fp rf y yd r0 x1 UP r0_0 r0_1; refine lg9 u51 ?_; intro fp rf y yd r0 x1 UP r0_0 r0_1
         try (replace s1 := s1.up u51)
         try (replace s2 := s2.up u51)
         replace r0_f0 := r0.free
         obtain ⟨x1_0, x1_1, x1_2⟩ := x1.c3
         clear u51))
    try go_wp2_with fail
    try clear hHeld
    refine hK.out _ _ ?_ (fun hHeld => ?_)
    · with_reducible exact ⟨UP, x1_0, x1_1, x1_2⟩
    clear hK K
    try simp only [gs, Act.put]
    refine rd 5 (fun K hK => ?_)
    go_simp
    (first
      | (go_at_call 41
         ((with_reducible refine (poly_scale_as ((qw_of y yd).fr LC) rf (by have := HYm.out; omega) (by omega) (by omega) HR2 HL2).mono ?_))
         rintro e W52 ⟨V52, rfl, s2, u52⟩
         obtain ⟨As2, cs2, rfl⟩ := s2.form
         clear x1_0 x1_1 x1_2; revert fp rf y yd r0 x1 UP r0_0 r0_1; refine lg9 u52 ?_; intro fp rf y yd r0 x1 UP r0_0 r0_1
         try (replace s1 := s1.up u52)
         try (replace s2 := s2.up u52)
         replace r0_f0 := r0.free
         obtain ⟨x1_0, x1_1, x1_2⟩ := x1.c3
         clear u52))
    try go_wp2_with fail
    try clear hHeld
    refine hK.out _ _ ?_ (fun hHeld => ?_)
    · with_reducible exact ⟨UP, x1_0, x1_1, x1_2⟩
    clear hK K
    try simp only [gs, Act.put]
    refine tk 6 ?_
    try simp only [gs, Act.put]
    refine rd 7 (fun K hK => ?_)
    go_simp
    skip
    try go_wp2_with fail
    try clear hHeld
    refine hK.out _ _ ?_ (fun hHeld => ?_)
    · (first | with_reducible exact ⟨UP, x1_0, x1_1, x1_2⟩ | with_reducible exact ⟨(us (us UP)), (cf (cf x1_0)), (cf (cf x1_1)), (cf (cf x1_2))⟩)
    clear hK K
    try simp only [gs, Act.put]
    refine wpAnyH_done (by kernel_rfl) ?_ _
    refine NoPanic.normal ?_
    clear hHeld
    clear fp rf
    have KW : Kw (W52) ((W52).setCell ⟨w.heap.size, 0, none⟩ (.slice As1 R1.length cs1)) := Kw.store (c := (.slice none 0 0)) r0 rfl trivial _
    revert y yd; refine lg2 KW ?_; intro y yd
    replace s1 := s1.stored r0 (by decide) KW
    replace s2 := s2.stored r0 (by decide) KW
    replace x1 := x1.fr (w.heap.size) 0 (.slice As1 R1.length cs1)
    replace r0 : Bx 84 ((W52).setCell ⟨w.heap.size, 0, none⟩ (.slice As1 R1.length cs1)) (w.heap.size) [.slice As1 R1.length cs1, .slice none 0 0] := r0.set 0 (.slice As1 R1.length cs1)
    replace UP := UP.setCell (p := ⟨w.heap.size, 0, none⟩) (by dsimp only; omega) (.slice As1 R1.length cs1)
    have KW : Kw (((W52).setCell ⟨w.heap.size, 0, none⟩ (.slice As1 R1.length cs1))) ((((W52).setCell ⟨w.heap.size, 0, none⟩ (.slice As1 R1.length cs1))).setCell ⟨w.heap.size, 1, none⟩ (.slice As2 R2.length cs2)) := Kw.store (c := (.slice none 0 0)) r0 rfl trivial _
    revert y yd; refine lg2 KW ?_; intro y yd
    replace s1 := s1.stored r0 (by decide) KW
    replace s2 := s2.stored r0 (by decide) KW
    replace x1 := x1.fr (w.heap.size) 1 (.slice As2 R2.length cs2)
    replace r0 : Bx 84 ((((W52).setCell ⟨w.heap.size, 0, none⟩ (.slice As1 R1.length cs1))).setCell ⟨w.heap.size, 1, none⟩ (.slice As2 R2.length cs2)) (w.heap.size) [.slice As1 R1.length cs1, .slice As2 R2.length cs2] := r0.set 1 (.slice As2 R2.length cs2)
    replace UP := UP.setCell (p := ⟨w.heap.size, 1, none⟩) (by dsimp only; omega) (.slice As2 R2.length cs2)
    clear KW
    generalize ((((W52).setCell ⟨w.heap.size, 0, none⟩ (.slice As1 R1.length cs1))).setCell ⟨w.heap.size, 1, none⟩ (.slice As2 R2.length cs2)) = W53 at *
    clear r0_0 r0_1 x1_0 x1_1 x1_2
    obtain ⟨r0_0, r0_1⟩ := r0.c2
    obtain ⟨x1_0, x1_1, x1_2⟩ := x1.c3
    go_wp2_with fail
    exact bodyPost_ret (run_res_cell rfl rfl agg_fun size_fun r0 rfl) rfl ⟨_, _, _, _, rfl, s1.a, s2.a, HCN, HLR, HLE.out _ _ HCN.out, UP⟩
 · skip
   have HG1 := Lib.hid (Pq.gcd_one ig.out.1 hgne.out (by have := HZ.out; unfold Pq.ln; omega))
   have HP : Hid (∀ x, Pq.E p x = Pq.E p x * Pq.E gg x) := Lib.hid (fun x => by rw [HG1.out, Rat.mul_one])
   have HQ : Hid (∀ x, Pq.E q x = Pq.E q x * Pq.E gg x) := Lib.hid (fun x => by rw [HG1.out, Rat.mul_one])
   have SQ : Hid (Pq.Lp q K') := Lib.hid (LQ.out.mono (by omega))
   have HLQ : Hid (q.length ≤ 1001) := Lib.hid (by omega)
   have HLP : Hid (p.length ≤ 1001) := Lib.hid (by omega)
   have HNE : Hid (Pq.nm q ≠ []) := Lib.hid (fun e => hq.out (Pq.nm_nil fun x => by rw [HQ.out, Pq.E_of_nil e, Rat.zero_mul]))
   obtain ⟨Y, HY⟩ : ∃ r, Hid (Pq.nm q = r) := ⟨_, Lib.hid rfl⟩
   have LY : Hid (∀ x ∈ Y, Wd.Lq x K') := Lib.hid (by rw [← HY.out]; exact SQ.out.nm.lq)
   obtain ⟨t, HT⟩ : ∃ t, Hid (Y.length = t + 1) := ⟨Y.length - 1, Lib.hid (by have := List.length_pos_iff.2 HNE.out; rw [HY.out] at this; omega)⟩
   have HTY : Hid (t < Y.length) := Lib.hid (by have := HT.out; omega)
   have HYm : Hid (Y.length ≤ 1002) := Lib.hid (by rw [← HY.out]; exact Nat.le_trans (Pq.nm_len _) (by have := HLQ.out; omega))
   go_wp2_with fail
   ((with_reducible refine (poly_norm_as h2 (by have := HLQ.out; omega) (by omega) HY LY).mono ?_))
   rintro e W3 ⟨V3, rfl, r, u3⟩
   obtain ⟨Ar, cr, rfl⟩ := r.form
   refine li7 u3 h h2 g2 r0 UP r0_0 r0_1 ?_; clear h h2 g2 r0 UP r0_0 r0_1; intro h h2 g2 r0 UP r0_0 r0_1
   replace r0_f0 := r0.free
   clear u3
   have UPo := Lib.hid UP
   clear UP
   have UP := Up.refl W3
   have rf := r.fs
   obtain ⟨b, oo, s, B0, m0, f, D0, n', f', e0, hb, g1, g2, g3, FX⟩ := rf.sq.at_ (kp_fr K') HTY.out
   subst e0
   have LX := LY.out _ (List.getElem_mem HTY.out)
   have HXD : Hid (Y[t]'HTY.out = (Pq.nm q).getD ((Pq.nm q).length - 1) 0) := Lib.hid (by rw [HY.out, show Y.length - 1 = t by have := HT.out; omega, Pq.getD_at HTY.out])
   generalize Y[t]'HTY.out = x at *
   have FX : Fr W3 (.agg #[.bool s, .slice B0 m0 f, .slice D0 n' f']) x K' := FX
   have HOLD : Hid (∀ w', Up W3 w' → w'.cell? ⟨b, oo + t * 3, none⟩ = some (.bool s) ∧ w'.cell? ⟨b, oo + t * 3 + 1, none⟩ = some (.slice B0 m0 f) ∧ w'.cell? ⟨b, oo + t * 3 + 2, none⟩ = some (.slice D0 n' f')) := Lib.hid (fun w' hu => ⟨hu.keeps g1, hu.keeps g2, hu.keeps g3⟩)
   clear g1 g2 g3 hb r r0_0 r0_1 r0_f0
   have k3 : IntKind.i64.wrap ((Y.length : Int) - 1) = (t : Int) := by have := HT.out; have := HYm.out; rw [IntKind.wrap_i64]; omega
   have k5 : (t : Int) < (Y.length : Int) := by have := HTY.out; omega
   obtain ⟨P0, HP0⟩ : ∃ P, Hid (((1 : Int) : Rat) = P) := ⟨_, Lib.hid rfl⟩
   have LO : Wd.Lq P0 2 := by rw [← HP0.out]; exact lq_int (by omega)
   obtain ⟨cc, HC⟩ : ∃ c, Hid (P0 / x = c) := ⟨_, Lib.hid rfl⟩
   have LC : Wd.Lq cc (2 + K') := by rw [← HC.out]; exact LO.div LX
   have HX1 : Hid (cc = 1 / (Pq.nm q).getD ((Pq.nm q).length - 1) 0) := Lib.hid (by rw [← HC.out, ← HP0.out, HXD.out]; rfl)
   have HCN := Lib.hid (Pq.can_of hq.out ig.out.2.2.2 HGN.out HP.out HQ.out HX1.out)
   rw [HY.out] at HCN
   obtain ⟨R1, HR1⟩ : ∃ r, Hid (Pq.nm (Pq.sc cc p) = r) := ⟨_, Lib.hid rfl⟩
   obtain ⟨R2, HR2⟩ : ∃ r, Hid (Pq.nm (Pq.sc cc Y) = r) := ⟨_, Lib.hid rfl⟩
   rw [HR1.out, HR2.out] at HCN
   have HLR := Lib.hid (HSM.out _ _ HCN.out)
   have HL1 := Lib.hid HLR.out.fst.lq
   have HL2 := Lib.hid HLR.out.snd.lq
   obtain ⟨r0_0, r0_1⟩ := r0.c2
   have r0_f0 := r0.free
   have HFP := Lib.hid h
   have HRF := Lib.hid rf
   clear h rf
   go_wp2_with fail
   refine li5 (Up.refl W3).drew FX r0 UP r0_0 r0_1 ?_; clear FX r0 UP r0_0 r0_1; intro FX r0 UP r0_0 r0_1
   replace r0_f0 := r0.free
   refine wp_region_noPanic ?_
   refine wp_region_held_drew (S := fun w' => Up W3 w' ∧ w'.cell? ⟨w.heap.size, 0, none⟩ = some (.slice none 0 0) ∧ w'.cell? ⟨w.heap.size, 1, none⟩ = some (.slice none 0 0) ∧ (w'.cell? ⟨b, oo + t * 3, none⟩ = some (.bool s) ∧ w'.cell? ⟨b, oo + t * 3 + 1, none⟩ = some (.slice B0 m0 f) ∧ w'.cell? ⟨b, oo + t * 3 + 2, none⟩ = some (.slice D0 n' f'))) (by kernel_rfl) (by exact ⟨UP, r0_0, r0_1, HOLD.out _ UP⟩) (fun hHeld => ?_)
   clear hHeld
   generalize W3.drew = WC at *
   have hHeld : Up W3 WC ∧ WC.cell? ⟨w.heap.size, 0, none⟩ = some (.slice none 0 0) ∧ WC.cell? ⟨w.heap.size, 1, none⟩ = some (.slice none 0 0) ∧ (WC.cell? ⟨b, oo + t * 3, none⟩ = some (.bool s) ∧ WC.cell? ⟨b, oo + t * 3 + 1, none⟩ = some (.slice B0 m0 f) ∧ WC.cell? ⟨b, oo + t * 3 + 2, none⟩ = some (.slice D0 n' f')) := by exact ⟨UP, r0_0, r0_1, HOLD.out _ UP⟩
   refine tk 1 ?_
   try simp only [gs, Act.put]
   refine tk 2 ?_
   try simp only [gs, Act.put]
   refine tk 3 ?_
   try simp only [gs, Act.put]
   refine tk 4 ?_
   try simp only [gs, Act.put]
   refine tk 5 ?_
   try simp only [gs, Act.put]
   refine tk 6 ?_
   try simp only [gs, Act.put]
   repeat' first
    | (refine tk 8 ?_
       try simp only [gs, Act.put])
    | (refine tk 9 ?_
       try simp only [gs, Act.put])
    | (refine tk 10 ?_
       try simp only [gs, Act.put])
    | refine wpAnyH_ready (rs := [0, 11]) (by decide +kernel) (by simp) ?_
    | refine wpAnyH_ready (rs := [0]) (by decide +kernel) (by simp) ?_
    | refine wpAnyH_ready (rs := [7, 11]) (by decide +kernel) (by simp) ?_
    | refine wpAnyH_ready (rs := [7]) (by decide +kernel) (by simp) ?_
    | refine wpAnyH_ready (rs := [11]) (by decide +kernel) (by simp) ?_
    | refine wpAnyH_ready (rs := [12]) (by decide +kernel) (by simp) ?_
    | refine wpAnyH_ready (rs := [13]) (by decide +kernel) (by simp) ?_
    | refine AllReadyH.cons (i := 0) rfl (fun K hK0 => ?_) ?_
    | refine AllReadyH.cons (i := 7) rfl (fun K hK7 => ?_) ?_
    | refine AllReadyH.cons (i := 11) rfl (fun K hK11 => ?_) ?_
    | refine AllReadyH.cons (i := 12) rfl (fun K hK12 => ?_) ?_
    | refine AllReadyH.cons (i := 13) rfl (fun K hK13 => ?_) ?_
    | exact AllReadyH.nil
    | (have hK := hK0
       clear hK0
       (try clear hHeld)
       go_simp
       go_at_call 90
       ((with_reducible refine (frac_of (n := 1) (by omega) _).mono ?_))
       rintro e WD ⟨V0, rfl, o, uu⟩
       refine li3 uu FX r0 UP ?_; clear FX r0 UP; intro FX r0 UP
       try (replace y := y.up uu)
       try (replace od := od.up uu)
       try (replace yd := yd.up uu)
       try (replace x1 := x1.up uu)
       clear uu
       obtain ⟨WC, hWC⟩ : ∃ W, W = WD := ⟨_, rfl⟩
       subst hWC
       replace r0_f0 := r0.free
       clear r0_0 r0_1
       obtain ⟨r0_0, r0_1⟩ := r0.c2
       rw [HP0.out] at o
       obtain ⟨Xo, Yo, rfl, o, od⟩ := o
       obtain ⟨Ao, no, co, rfl⟩ := o.shape
       obtain ⟨Aod, nod, cod, rfl⟩ := od.shape
       try go_wp2_with fail
       refine hK.out _ _ (by exact ⟨UP, r0_0, r0_1, HOLD.out _ UP⟩) (fun hHeld => ?_)
       clear hK K
       try simp only [gs, Act.put])
    | (have hK := hK7
       clear hK7
       (try clear hHeld)
       go_simp
       go_at_call 116
       ((with_reducible refine (frac_quo ((qw_of o od).fr LO) FX (by omega) (by omega)).mono ?_))
       rintro e WD ⟨V7, rfl, y, uu⟩
       refine li3 uu FX r0 UP ?_; clear FX r0 UP; intro FX r0 UP
       try (replace o := o.up uu)
       try (replace od := od.up uu)
       try (replace yd := yd.up uu)
       try (replace x1 := x1.up uu)
       clear uu
       obtain ⟨WC, hWC⟩ : ∃ W, W = WD := ⟨_, rfl⟩
       subst hWC
       replace r0_f0 := r0.free
       clear r0_0 r0_1
       obtain ⟨r0_0, r0_1⟩ := r0.c2
       rw [HC.out] at y
       obtain ⟨Xy, Yy, rfl, y, yd⟩ := y
       obtain ⟨Ay, ny, cy, rfl⟩ := y.shape
       obtain ⟨Ayd, nyd, cyd, rfl⟩ := yd.shape
       try go_wp2_with fail
       refine hK.out _ _ (by exact ⟨UP, r0_0, r0_1, HOLD.out _ UP⟩) (fun hHeld => ?_)
       clear hK K
       try simp only [gs, Act.put])
    | (have hK := hK11
       clear hK11
       (try clear hHeld)
       go_simp
       have x1 := Bx.new 34 WC [.bool false, .slice none 0 0, .slice none 0 0]
       have r0_lt_x1 := r0.lt
       have x1_base := UP.size
       have nu := ((Up.refl WC).alloc (.cells #[.bool false, .slice none 0 0, .slice none 0 0] 34))
       refine li3 nu FX r0 UP ?_; clear FX r0 UP; intro FX r0 UP
       try (replace o := o.up nu)
       try (replace y := y.up nu)
       try (replace od := od.up nu)
       try (replace yd := yd.up nu)
       clear nu
       generalize WC.alloc (.cells #[.bool false, .slice none 0 0, .slice none 0 0] 34) = WD at *
       generalize WC.heap.size = gx1 at *
       obtain ⟨WC, hWC⟩ : ∃ W, W = WD := ⟨_, rfl⟩
       subst hWC
       replace r0_f0 := r0.free
       clear r0_0 r0_1
       obtain ⟨r0_0, r0_1⟩ := r0.c2
       refine hK.out _ _ (by exact ⟨UP, r0_0, r0_1, HOLD.out _ UP⟩) (fun hHeld => ?_)
       clear hK K
       try simp only [gs, Act.put])
    | (have hK := hK12
       clear hK12
       (try clear hHeld)
       obtain ⟨ce0, ce1, ce2⟩ := x1.c3
       have fr0 := x1.free 0
       have fr1 := x1.free 1
       have fr2 := x1.free 2
       go_simp
       clear ce0 ce1 ce2 fr0 fr1 fr2
       have KW : Kw (WC) ((WC).setCell ⟨gx1, 0, none⟩ (.bool (Wd.ngb cc.num))) := Kw.store (c := (.bool false)) x1 rfl trivial _
       replace FX := FX.kw KW
       try (replace o := o.kw KW)
       try (replace y := y.kw KW)
       try (replace od := od.kw KW)
       try (replace yd := yd.kw KW)
       replace r0 := r0.fr gx1 0 (.bool (Wd.ngb cc.num))
       replace x1 : Bx 34 ((WC).setCell ⟨gx1, 0, none⟩ (.bool (Wd.ngb cc.num))) (gx1) [.bool (Wd.ngb cc.num), .slice none 0 0, .slice none 0 0] := x1.set 0 (.bool (Wd.ngb cc.num))
       replace UP := UP.setCell (p := ⟨gx1, 0, none⟩) (by dsimp only; omega) (.bool (Wd.ngb cc.num))
       have KW : Kw (((WC).setCell ⟨gx1, 0, none⟩ (.bool (Wd.ngb cc.num)))) ((((WC).setCell ⟨gx1, 0, none⟩ (.bool (Wd.ngb cc.num)))).setCell ⟨gx1, 1, none⟩ (.slice Ay ny cy)) := Kw.store (c := (.slice none 0 0)) x1 rfl trivial _
       replace FX := FX.kw KW
       try (replace o := o.kw KW)
       try (replace y := y.kw KW)
       try (replace od := od.kw KW)
       try (replace yd := yd.kw KW)
       replace r0 := r0.fr gx1 1 (.slice Ay ny cy)
       replace x1 : Bx 34 ((((WC).setCell ⟨gx1, 0, none⟩ (.bool (Wd.ngb cc.num)))).setCell ⟨gx1, 1, none⟩ (.slice Ay ny cy)) (gx1) [.bool (Wd.ngb cc.num), .slice Ay ny cy, .slice none 0 0] := x1.set 1 (.slice Ay ny cy)
       replace UP := UP.setCell (p := ⟨gx1, 1, none⟩) (by dsimp only; omega) (.slice Ay ny cy)
       have KW : Kw (((((WC).setCell ⟨gx1, 0, none⟩ (.bool (Wd.ngb cc.num)))).setCell ⟨gx1, 1, none⟩ (.slice Ay ny cy))) ((((((WC).setCell ⟨gx1, 0, none⟩ (.bool (Wd.ngb cc.num)))).setCell ⟨gx1, 1, none⟩ (.slice Ay ny cy))).setCell ⟨gx1, 2, none⟩ (.slice Ayd nyd cyd)) := Kw.store (c := (.slice none 0 0)) x1 rfl trivial _
       replace FX := FX.kw KW
       try (replace o := o.kw KW)
       try (replace y := y.kw KW)
       try (replace od := od.kw KW)
       try (replace yd := yd.kw KW)
       replace r0 := r0.fr gx1 2 (.slice Ayd nyd cyd)
       replace x1 : Bx 34 ((((((WC).setCell ⟨gx1, 0, none⟩ (.bool (Wd.ngb cc.num)))).setCell ⟨gx1, 1, none⟩ (.slice Ay ny cy))).setCell ⟨gx1, 2, none⟩ (.slice Ayd nyd cyd)) (gx1) [.bool (Wd.ngb cc.num), .slice Ay ny cy, .slice Ayd nyd cyd] := x1.set 2 (.slice Ayd nyd cyd)
       replace UP := UP.setCell (p := ⟨gx1, 2, none⟩) (by dsimp only; omega) (.slice Ayd nyd cyd)
       clear KW
       generalize ((((((WC).setCell ⟨gx1, 0, none⟩ (.bool (Wd.ngb cc.num)))).setCell ⟨gx1, 1, none⟩ (.slice Ay ny cy))).setCell ⟨gx1, 2, none⟩ (.slice Ayd nyd cyd)) = WD at *
       obtain ⟨WC, hWC⟩ : ∃ W, W = WD := ⟨_, rfl⟩
       subst hWC
       replace r0_f0 := r0.free
       clear r0_0 r0_1
       obtain ⟨r0_0, r0_1⟩ := r0.c2
       refine hK.out _ _ (by exact ⟨UP, r0_0, r0_1, HOLD.out _ UP⟩) (fun hHeld => ?_)
       clear hK K
       try simp only [gs, Act.put])
    | (have hK := hK13
       clear hK13
       (try clear hHeld)
       go_simp
       refine hK.out _ _ (by exact ⟨UP, r0_0, r0_1, HOLD.out _ UP⟩) (fun hHeld => ?_)
       clear hK K
       try simp only [gs, Act.put])
    | refine wpAnyH_done (by decide +kernel) (NoPanic.normal ?_) _
    | fail
   all_goals try clear hHeld
   all_goals obtain ⟨x1_0, x1_1, x1_2⟩ := x1.c3
   all_goals
    have fp := HFP.out.up UP
    have rf := HRF.out.up UP
    replace UP := UPo.out.trans UP
    clear r0_0 r0_1 r0_f0 x1_0 x1_1 x1_2
    obtain ⟨r0_0, r0_1⟩ := r0.c2
    have r0_f0 := r0.free
    obtain ⟨x1_0, x1_1, x1_2⟩ := x1.c3
    go_wp2_with fail
    clear x1_0 x1_1 x1_2; refine li7 (Up.refl WC).drew fp rf y yd r0 x1 UP ?_; clear fp rf y yd r0 x1 UP; intro fp rf y yd r0 x1 UP
    obtain ⟨r0_0, r0_1⟩ := r0.c2
    have r0_f0 := r0.free
    obtain ⟨x1_0, x1_1, x1_2⟩ := x1.c3
    refine wp_region_noPanic ?_
    refine wp_region_held_drew (S := fun w' => Up w w' ∧ w'.cell? ⟨gx1, 0, none⟩ = some (.bool (Wd.ngb cc.num)) ∧ w'.cell? ⟨gx1, 1, none⟩ = some (.slice Ay ny cy) ∧ w'.cell? ⟨gx1, 2, none⟩ = some (.slice Ayd nyd cyd)) (by kernel_rfl) ?_ (fun hHeld => ?_)
    · with_reducible exact ⟨UP, x1_0, x1_1, x1_2⟩
    refine tk 0 ?_
    try simp only [gs, Act.put]
    refine tk 1 ?_
    try simp only [gs, Act.put]
    refine tk 3 ?_
    try simp only [gs, Act.put]
    refine tk 4 ?_
    try simp only [gs, Act.put]
    refine rd 2 (fun K hK => ?_)
    go_simp
    (first
      | (go_at_call 41
         ((with_reducible refine (poly_scale_as ((qw_of y yd).fr LC) fp (by have := HLP.out; omega) (by omega) (by omega) HR1 HL1).mono ?_))
         rintro e W51 ⟨V51, rfl, s1, u51⟩
         obtain ⟨As1, cs1, rfl⟩ := s1.form
         clear x1_0 x1_1 x1_2; revert fp rf y yd r0 x1 UP r0_0 r0_1; refine lg9 u51 ?_; intro fp rf y yd r0 x1 UP r0_0 r0_1
         try (replace s1 := s1.up u51)
         try (replace s2 := s2.up u51)
         replace r0_f0 := r0.free
         obtain ⟨x1_0, x1_1, x1_2⟩ := x1.c3
         clear u51))
    try go_wp2_with fail
    try clear hHeld
    refine hK.out _ _ ?_ (fun hHeld => ?_)
    · with_reducible exact ⟨UP, x1_0, x1_1, x1_2⟩
    clear hK K
    try simp only [gs, Act.put]
    refine rd 5 (fun K hK => ?_)
    go_simp
    (first
      | (go_at_call 41
         ((with_reducible refine (poly_scale_as ((qw_of y yd).fr LC) rf (by have := HYm.out; omega) (by omega) (by omega) HR2 HL2).mono ?_))
         rintro e W52 ⟨V52, rfl, s2, u52⟩
         obtain ⟨As2, cs2, rfl⟩ := s2.form
         clear x1_0 x1_1 x1_2; revert fp rf y yd r0 x1 UP r0_0 r0_1; refine lg9 u52 ?_; intro fp rf y yd r0 x1 UP r0_0 r0_1
         try (replace s1 := s1.up u52)
         try (replace s2 := s2.up u52)
         replace r0_f0 := r0.free
         obtain ⟨x1_0, x1_1, x1_2⟩ := x1.c3
         clear u52))
    try go_wp2_with fail
    try clear hHeld
    refine hK.out _ _ ?_ (fun hHeld => ?_)
    · with_reducible exact ⟨UP, x1_0, x1_1, x1_2⟩
    clear hK K
    try simp only [gs, Act.put]
    refine tk 6 ?_
    try simp only [gs, Act.put]
    refine rd 7 (fun K hK => ?_)
    go_simp
    skip
    try go_wp2_with fail
    try clear hHeld
    refine hK.out _ _ ?_ (fun hHeld => ?_)
    · (first | with_reducible exact ⟨UP, x1_0, x1_1, x1_2⟩ | with_reducible exact ⟨(us (us UP)), (cf (cf x1_0)), (cf (cf x1_1)), (cf (cf x1_2))⟩)
    clear hK K
    try simp only [gs, Act.put]
    refine wpAnyH_done (by kernel_rfl) ?_ _
    refine NoPanic.normal ?_
    clear hHeld
    clear fp rf
    have KW : Kw (W52) ((W52).setCell ⟨w.heap.size, 0, none⟩ (.slice As1 R1.length cs1)) := Kw.store (c := (.slice none 0 0)) r0 rfl trivial _
    revert y yd; refine lg2 KW ?_; intro y yd
    replace s1 := s1.stored r0 (by decide) KW
    replace s2 := s2.stored r0 (by decide) KW
    replace x1 := x1.fr (w.heap.size) 0 (.slice As1 R1.length cs1)
    replace r0 : Bx 84 ((W52).setCell ⟨w.heap.size, 0, none⟩ (.slice As1 R1.length cs1)) (w.heap.size) [.slice As1 R1.length cs1, .slice none 0 0] := r0.set 0 (.slice As1 R1.length cs1)
    replace UP := UP.setCell (p := ⟨w.heap.size, 0, none⟩) (by dsimp only; omega) (.slice As1 R1.length cs1)
    have KW : Kw (((W52).setCell ⟨w.heap.size, 0, none⟩ (.slice As1 R1.length cs1))) ((((W52).setCell ⟨w.heap.size, 0, none⟩ (.slice As1 R1.length cs1))).setCell ⟨w.heap.size, 1, none⟩ (.slice As2 R2.length cs2)) := Kw.store (c := (.slice none 0 0)) r0 rfl trivial _
    revert y yd; refine lg2 KW ?_; intro y yd
    replace s1 := s1.stored r0 (by decide) KW
    replace s2 := s2.stored r0 (by decide) KW
    replace x1 := x1.fr (w.heap.size) 1 (.slice As2 R2.length cs2)
    replace r0 : Bx 84 ((((W52).setCell ⟨w.heap.size, 0, none⟩ (.slice As1 R1.length cs1))).setCell ⟨w.heap.size, 1, none⟩ (.slice As2 R2.length cs2)) (w.heap.size) [.slice As1 R1.length cs1, .slice As2 R2.length cs2] := r0.set 1 (.slice As2 R2.length cs2)
    replace UP := UP.setCell (p := ⟨w.heap.size, 1, none⟩) (by dsimp only; omega) (.slice As2 R2.length cs2)
    clear KW
    generalize ((((W52).setCell ⟨w.heap.size, 0, none⟩ (.slice As1 R1.length cs1))).setCell ⟨w.heap.size, 1, none⟩ (.slice As2 R2.length cs2)) = W53 at *
    clear r0_0 r0_1 x1_0 x1_1 x1_2
    obtain ⟨r0_0, r0_1⟩ := r0.c2
    obtain ⟨x1_0, x1_1, x1_2⟩ := x1.c3
    go_wp2_with fail
    exact bodyPost_ret (run_res_cell rfl rfl agg_fun size_fun r0 rfl) rfl ⟨_, _, _, _, rfl, s1.a, s2.a, HCN, HLR, HLE.out _ _ HCN.out, UP⟩
end Go.Proofs.YtmmcffceeahemaaGreat
