/-
  Layer 15, the document's answers: the polynomial 1; the right function.
-/
import Derived.Test.YtmmcffceeahemaaGreatZtRefPoly7
import Derived.Test.YtmmcffceeahemaaGreatZtRefDivMath2
import Derived.Test.YtmmcffceeahemaaGreatZtRatfLaw
import Derived.Test.YtmmcffceeahemaaGreatZtShort
set_option linter.unusedVariables false
set_option linter.unusedSimpArgs false
namespace Pq
theorem IsGcd.small {x y g : List Rat} {K m : Nat} (hg : IsGcd x y g) (HK : ∀ n, (∀ i, i < n → (gst x y i).2 ≠ []) → Lp (gst x y n).1 K ∧ Lp (gst x y n).2 K) (lx : x.length ≤ m) (ly : y.length ≤ m) : Lp g K ∧ g.length ≤ m := by
 obtain ⟨n, h1, h2⟩ := gst_ends x y
 have := IsGcd.of_span (by have := gst_span x y n h1; rwa [h2] at this) (gst_mo x y n).1
 rw [hg.unique this]
 exact ⟨(HK n h1).1, (gst_len x y lx ly n h1).1⟩
end Pq
namespace Go.Proofs.YtmmcffceeahemaaGreat
open Go.RowKit
/-- A row of right fractions of the document's, that stands alone. -/
def GRow (k : Nat) (w : World) (v : Value) (qs : List Rat) : Prop := OwnQ (Qk k) 24 0 w v qs
theorem GRow.up {k : Nat} {w w' : World} {v : Value} {qs : List Rat} (h : GRow k w v qs) (hu : Up w w') : GRow k w' v qs := OwnQ.up (kp_qk k) h hu
instance GRow.lup {k : Nat} {w w' : World} {v : Value} {qs : List Rat} : Lu (Up w w') (GRow k w v qs) (GRow k w' v qs) := luM fun u h => h.up u
theorem GRow.form {k : Nat} {w : World} {v : Value} {qs : List Rat} (h : GRow k w v qs) : ∃ A c, v = .slice A qs.length c := OwnQ.form h
theorem QRow.g {k : Nat} {w0 w : World} {v : Value} {qs : List Rat} (h : QRow k w0 w v qs) : GRow k w v qs := OwnQ.weaken h (Nat.zero_le _)
theorem GRow.q {k : Nat} {w : World} {v : Value} {qs : List Rat} (h : GRow k w v qs) : QSq k w v qs := OwnQ.sq h
theorem GRow.mono {j k : Nat} {w : World} {v : Value} {qs : List Rat} (h : GRow j w v qs) (hk : j ≤ k) : GRow k w v qs := OwnQ.imp h fun hx => hx.mono hk
theorem GRow.re {j k : Nat} {w : World} {v : Value} {qs : List Rat} (h : GRow j w v qs) (hq : ∀ q ∈ qs, Wd.Lq q k) : GRow k w v qs := OwnQ.imp2 h fun hm hx => ⟨hx.1, hq _ hm⟩
theorem GRow.stored {k : Nat} {w : World} {v x : Value} {qs : List Rat} {S : TypeId} {g i : Nat} {vs : List Value} (h : GRow k w v qs) (hb : Bx S w g vs) (hne : 24 ≠ S) (hk : Kw w (w.setCell ⟨g, i, none⟩ x)) : GRow k (w.setCell ⟨g, i, none⟩ x) v qs :=
 OwnQ.kept (kp_qk k) h hk (row := some g) ⟨rfl, rfl, rfl, by simp [World.setCell], fun j hj hj2 => Below.heap_setCell _ _ _ _ (by simp; exact fun e => hj2 (by rw [e]))⟩ (.inr (ownq_not_bx h hb hne))
theorem QRow.stored {k : Nat} {w0 w : World} {v x : Value} {qs : List Rat} {S : TypeId} {g i : Nat} {vs : List Value} (h : QRow k w0 w v qs) (hb : Bx S w g vs) (hne : 24 ≠ S) (hk : Kw w (w.setCell ⟨g, i, none⟩ x)) : QRow k w0 (w.setCell ⟨g, i, none⟩ x) v qs :=
 OwnQ.kept (kp_qk k) h hk (row := some g) ⟨rfl, rfl, rfl, by simp [World.setCell], fun j hj hj2 => Below.heap_setCell _ _ _ _ (by simp; exact fun e => hj2 (by rw [e]))⟩ (.inr (ownq_not_bx h hb hne))
theorem GRow.ne {k : Nat} {w : World} {v : Value} {qs : List Rat} (h : GRow k w v qs) : v.ownBlock ≠ some w.heap.size := fun e => by have := (OwnQ.lt h _ e).2; omega
theorem g_row {k : Nat} {w : World} {g : Nat} {xs : List F3} {qs : List Rat} (hb : Bx 24 w g (fcells xs)) (ha : Al (fun x q => Qk k w x.agg q) xs qs) (hl : qs.length ≤ 1000000) : GRow k w (.slice (some ⟨g, 0, none⟩) qs.length qs.length) qs := by
 have hok : ∀ x ∈ xs, x.ok := fun x hx => by
  obtain ⟨j, hj⟩ := List.getElem?_of_mem hx
  have hjl : j < qs.length := by rw [← ha.1]; exact (List.getElem?_eq_some_iff.1 hj).1
  obtain ⟨z, e, hz⟩ := (kp_qk k).form (ha.2 j x _ hj (List.getElem?_eq_getElem hjl))
  rw [F3.agg_inj e]
  exact hz
 have : OwnQ (Qk k) 24 0 w (.slice (some ⟨g, 0, none⟩) xs.length xs.length) qs := ⟨xs, ha, hok, .inr ⟨g, [], rfl, Nat.zero_le _, by rw [List.append_nil]; exact hb, by simp, by rw [ha.1]; simp [maxLen]; omega⟩⟩
 rw [ha.1] at this
 exact this
theorem g_nil {k : Nat} {w : World} {g : Nat} (hb : Bx 24 w g []) : GRow k w (.slice (some ⟨g, 0, none⟩) 0 0) [] :=
 ⟨[], Al.nil _, by simp, .inr ⟨g, [], rfl, Nat.zero_le _, hb, by simp, by simp [maxLen]⟩⟩
theorem g_one {k : Nat} {w : World} {g : Nat} {s1 : Bool} {u1 d1 : Value} {q1 : Rat} (hb : Bx 24 w g [.bool s1, u1, d1]) (h1 : Qw w (.agg #[.bool s1, u1, d1]) q1) (hk : Wd.Lq q1 k) : GRow k w (.slice (some ⟨g, 0, none⟩) 1 1) [q1] :=
 g_row (xs := [⟨s1, u1, d1⟩]) hb (Al.one (R := fun x q => Qk k w x.agg q) (x := ⟨s1, u1, d1⟩) ⟨h1, hk⟩) (by simp)
def RetGR (k : Nat) (qs : List Rat) (w : World) (e : Ending) (w' : World) : Prop := ∃ v, e = .returned v ∧ GRow k w' v qs ∧ Up w w'
set_option maxRecDepth 100000 in
set_option maxHeartbeats 1600000 in
theorem ref_one15 (w : World) : Calls Tryz.prog 127 #[] w (RetGR 2 [1] w) := by
 obtain ⟨P1, HP1⟩ : ∃ P, Hid (((1 : Int) : Rat) = P) := ⟨_, Lib.hid rfl⟩
 have L1 : Wd.Lq P1 2 := by rw [← HP1.out]; exact lq_int (by omega)
 have H1 : Hid (P1 = 1) := Lib.hid (by rw [← HP1.out]; rfl)
 have UP : Up w w := Up.refl w
 go_enter Tryz.func127, Tryz.ntmps127
 go_wp2_with fail
 ((with_reducible refine (ref9_int (n := 1) (by omega) _).mono ?_))
 rintro e W1 ⟨V1, rfl, o, u1⟩
 replace UP := UP.trans u1
 clear u1
 rw [HP1.out] at o
 obtain ⟨Xo, Yo, rfl, o, od⟩ := o
 obtain ⟨Ao, no, co, rfl⟩ := o.shape
 obtain ⟨Aod, nod, cod, rfl⟩ := od.shape
 go_wp2_with fail
 have s1 := Bx.new 24 W1 [.bool (Wd.ngb P1.num), .slice Ao no co, .slice Aod nod cod]
 have nu := ((Up.refl W1).alloc (.cells #[.bool (Wd.ngb P1.num), .slice Ao no co, .slice Aod nod cod] 24))
 revert UP o od
 revert nu
 refine lh3 ?_
 intro UP o od
 generalize (W1.alloc (.cells #[.bool (Wd.ngb P1.num), .slice Ao no co, .slice Aod nod cod] 24)) = W2 at *
 obtain ⟨s1_0, s1_1, s1_2⟩ := s1.c3
 go_ret
 have F := g_one s1 (qw_of o od) L1
 rw [H1.out] at F
 exact ⟨_, rfl, F, UP⟩
/-- A right function of the document's comes back: that of two polynomials. -/
def RetGn (K m : Nat) (p q : List Rat) (w : World) (e : Ending) (w' : World) : Prop := ∃ V U P Q, e = .returned (.agg #[V, U]) ∧ GRow K w' V P ∧ GRow K w' U Q ∧ Hid (Pq.Can p q P Q) ∧ Hid (Pq.Lp (P ++ Q) K) ∧ Hid (P.length ≤ m ∧ Q.length ≤ m) ∧ Up w w'
theorem agg_rfun (w : World) : (isAgg 80).run Tryz.prog w = .ok true w := by kernel_rfl
theorem size_rfun (w : World) : (sizeOf 80).run Tryz.prog w = .ok 2 w := by kernel_rfl
theorem rdiv15 {v u : Value} {a b Q : List Rat} {ka kb j k m K : Nat} {w : World} (h : QSq ka w v a) (h2 : QSq kb w u b) (ta : Pq.Tr a) (tb : Pq.Tr b) (hne : b ≠ []) (hl : a.length ≤ m) (hl2 : b.length ≤ m) (hm : m ≤ 299) (LA : Pq.Lp a j) (LB : Pq.Lp b k) (hK : j + k + (m + 1) * (k + 1) ≤ K) (hKK : K + k + k + 10 ≤ 2400000) (hj : ka ≤ K) (hb : kb ≤ K) (HQ : Hid (Pq.dq a b = Q)) :
 Calls Tryz.prog 48 #[v, u] w (RetDR K Q (Pq.dr a b) w) := by
 rw [← HQ.out]
 have h1 : (a.length + 1) * (k + 1) ≤ (m + 1) * (k + 1) := Nat.mul_le_mul_right _ (by omega)
 exact ref_div14 h h2 ta tb hne (by omega) (by omega) (by omega) (by omega) LA LB (by omega) hKK hj
set_option maxRecDepth 100000 in
set_option maxHeartbeats 12800000 in
theorem ref_norm15 {v u : Value} {p q P D : List Rat} {ka j m K DD Z : Nat} {w : World} (h : FSq ka w v p) (h2 : FSq ka w u q) (hl : p.length ≤ m) (hl2 : q.length ≤ m) (hm1 : 1 ≤ m) (hm : m ≤ 290) (LJ : Pq.Lp (p ++ q) j) (hK : 2 * m * (j + 1) ≤ K) (hDD : K + (m + 1) * (K + 1) ≤ DD) (hZ : DD * (m + 1) + K = Z) (hZZ : Z + Z + (m + 1) * (Z + 1) + Z + Z + 10 ≤ 2400000) (hka : ka ≤ Z) (HP : Hid (Pq.pu p q = P)) (HD : Hid (Pq.pd p q = D)) :
 Calls Tryz.prog 61 #[.agg #[v, u]] w (RetGn K m P D w) := by
 have hjK : j ≤ K := by
  have : 1 * (j + 1) ≤ 2 * m * (j + 1) := Nat.mul_le_mul_right _ (by omega)
  omega
 have hKZ : K ≤ Z ∧ K + (m + 1) * (K + 1) ≤ Z := by
  have : DD * 1 ≤ DD * (m + 1) := Nat.mul_le_mul_left _ (by omega)
  omega
 have lP : P.length ≤ m := by rw [← HP.out]; exact Nat.le_trans (Pq.pu_len p q) hl
 have lD : D.length ≤ m := by rw [← HD.out]; have := Pq.pd_len p q; omega
 have LPD : Hid (Pq.Lp (P ++ D) j) := Lib.hid (by rw [← HP.out, ← HD.out]; exact Pq.pud_lp LJ)
 have DN : Hid (Pq.nm D ≠ []) := Lib.hid (by rw [← HD.out]; exact Pq.pd_ne p q)
 have HSM : Hid (∀ U V, Pq.Can P D U V → Pq.Lp (U ++ V) K) := Lib.hid (fun U V hc => (Pq.can_small DN.out hc LPD.out (Nat.le_trans (Pq.ln_le _) lP) (Nat.le_trans (Pq.ln_le _) lD) (by omega)).mono hK)
 have HLE : Hid (∀ U V, Pq.Can P D U V → Hid (U.length ≤ m ∧ V.length ≤ m)) := Lib.hid (fun U V hc => Lib.hid ⟨Nat.le_trans (hc.len DN.out).2 (Nat.le_trans (Pq.ln_le _) lP), Nat.le_trans (hc.len DN.out).1 (Nat.le_trans (Pq.ln_le _) lD)⟩)
 have LP := Lib.hid LJ.fst
 have LQ := Lib.hid LJ.snd
 obtain ⟨M, HM⟩ : ∃ r, Hid (Pq.nm p = r) := ⟨_, Lib.hid rfl⟩
 obtain ⟨N, HN⟩ : ∃ r, Hid (Pq.nm q = r) := ⟨_, Lib.hid rfl⟩
 have lM : M.length ≤ m := by rw [← HM.out]; exact Nat.le_trans (Pq.nm_len _) hl
 have lN : N.length ≤ m := by rw [← HN.out]; exact Nat.le_trans (Pq.nm_len _) hl2
 have TM : Hid (Pq.Tr M) := Lib.hid (by rw [← HM.out]; exact Pq.tr_nm _)
 have TN : Hid (Pq.Tr N) := Lib.hid (by rw [← HN.out]; exact Pq.tr_nm _)
 have LPM : Hid (Pq.Lp M j) := Lib.hid (by rw [← HM.out]; exact LP.out.nm)
 have LPN : Hid (Pq.Lp N j) := Lib.hid (by rw [← HN.out]; exact LQ.out.nm)
 obtain ⟨A, c, rfl⟩ := h.form
 obtain ⟨B, d, rfl⟩ := h2.form
 have UP : Up w ((w.alloc (.cells #[.slice A p.length c, .slice B q.length d] 80)).alloc (.cells #[.slice none 0 0, .slice none 0 0] 80)) := ((Up.refl w).alloc _).alloc _
 obtain ⟨b0, r0⟩ := bx_two 80 80 w [.slice A p.length c, .slice B q.length d] [.slice none 0 0, .slice none 0 0]
 go_enter Tryz.func61, Tryz.ntmps61
 go_wp2_with fail
 generalize ((w.alloc (.cells #[.slice A p.length c, .slice B q.length d] 80)).alloc (.cells #[.slice none 0 0, .slice none 0 0] 80)) = W at *
 revert h h2
 refine lg2 UP ?_
 intro h h2
 obtain ⟨b0_0, b0_1⟩ := b0.c2
 obtain ⟨r0_0, r0_1⟩ := r0.c2
 have r0_f0 := r0.free
 go_wp2_with fail
 ((with_reducible refine (ref_norms11 h (by omega) (by omega)).mono ?_))
 rintro e W1 ⟨V1, rfl, n1, u1⟩
 obtain ⟨An1, cn1, rfl⟩ := n1.form
 revert UP b0 r0 h h2 b0_0 b0_1 r0_0 r0_1
 refine lg9 u1 ?_
 intro UP b0 r0 h h2 b0_0 b0_1 r0_0 r0_1
 replace r0_f0 := r0.free
 clear u1
 go_wp2_with fail
 ((with_reducible refine (rnorm_as n1.q (by omega) (by omega) HM).mono ?_))
 rintro e W2 ⟨V2, rfl, m1, u2⟩
 obtain ⟨Am1, cm1, rfl⟩ := m1.form
 revert n1 UP b0 r0 h h2 b0_0 b0_1 r0_0 r0_1
 refine lg10 u2 ?_
 intro n1 UP b0 r0 h h2 b0_0 b0_1 r0_0 r0_1
 replace r0_f0 := r0.free
 clear u2
 replace m1 := m1.re (k := j) LPM.out.lq
 clear n1
 go_wp2_with fail
 ((with_reducible refine (ref_norms11 h2 (by omega) (by omega)).mono ?_))
 rintro e W3 ⟨V3, rfl, n2, u3⟩
 obtain ⟨An2, cn2, rfl⟩ := n2.form
 revert UP b0 r0 h h2 b0_0 b0_1 r0_0 r0_1 m1
 refine lg10 u3 ?_
 intro UP b0 r0 h h2 b0_0 b0_1 r0_0 r0_1 m1
 replace r0_f0 := r0.free
 clear u3
 go_wp2_with fail
 ((with_reducible refine (rnorm_as n2.q (by omega) (by omega) HN).mono ?_))
 rintro e W4 ⟨V4, rfl, m2, u4⟩
 obtain ⟨Am2, cm2, rfl⟩ := m2.form
 revert n2 UP b0 r0 h h2 b0_0 b0_1 r0_0 r0_1 m1
 refine lg11 u4 ?_
 intro n2 UP b0 r0 h h2 b0_0 b0_1 r0_0 r0_1 m1
 replace r0_f0 := r0.free
 clear u4
 replace m2 := m2.re (k := j) LPN.out.lq
 clear n2 h h2
 by_cases hN : N = []
 · have hl0 : N.length = 0 := by rw [hN]; rfl
   have HE : Hid (P = []) := Lib.hid (by rw [← HP.out]; exact if_pos (HN.out.trans hN))
   have hx0 : ((N.length : Int) == 0) = true := by simp [hl0]
   clear hN
   have HCN : Hid (Pq.Can P D [] [1]) := Lib.hid (Pq.can_zero (by rw [HE.out]; rfl))
   have HLR := Lib.hid (HSM.out _ _ HCN.out)
   clear m1 m2
   have b0_0a := cA b0_0
   have b0_1a := cA b0_1
   have r0_0a := cA r0_0
   have r0_f0a := r0.fa
   have r0_1a := cA r0_1
   go_wp2_with fail
   clear b0_0a b0_1a r0_0a r0_f0a r0_1a
   have e1 := Bx.new 24 W4 []
   have b0_lt_e1 := b0.lt
   have r0_lt_e1 := r0.lt
   have nu := ((Up.refl W4).alloc (.cells #[] 24))
   revert UP b0 r0; revert nu; refine lh3 ?_; intro UP b0 r0
   generalize (W4.alloc (.cells #[] 24)) = W5 at *
   clear b0_0 b0_1 r0_0 r0_1
   obtain ⟨b0_0, b0_1⟩ := b0.c2
   obtain ⟨r0_0, r0_1⟩ := r0.c2
   replace r0_f0 := r0.free
   ((with_reducible refine (ref_one15 _).mono ?_))
   rintro e W6 ⟨V6, rfl, o, u6⟩
   obtain ⟨Ao, co, rfl⟩ := o.form
   revert e1 UP b0 r0 b0_0 b0_1 r0_0 r0_1; refine lg8 u6 ?_; intro e1 UP b0 r0 b0_0 b0_1 r0_0 r0_1
   replace r0_f0 := r0.free
   clear u6
   have g0 := g_nil (k := K) e1
   go_wp2_with fail
   have KW : Kw (W6) ((W6).setCell ⟨w.heap.size + 1, 0, none⟩ (.slice (some ⟨W4.heap.size, 0, none⟩) 0 0)) := Kw.store (c := (.slice none 0 0)) r0 rfl trivial _
   replace o := o.stored r0 (by decide) KW
   replace g0 := g0.stored r0 (by decide) KW
   replace b0 := b0.fr (w.heap.size + 1) 0 (.slice (some ⟨W4.heap.size, 0, none⟩) 0 0)
   replace e1 := e1.fr (w.heap.size + 1) 0 (.slice (some ⟨W4.heap.size, 0, none⟩) 0 0)
   replace r0 : Bx 80 ((W6).setCell ⟨w.heap.size + 1, 0, none⟩ (.slice (some ⟨W4.heap.size, 0, none⟩) 0 0)) (w.heap.size + 1) [.slice (some ⟨W4.heap.size, 0, none⟩) 0 0, .slice none 0 0] := r0.set 0 (.slice (some ⟨W4.heap.size, 0, none⟩) 0 0)
   replace UP := UP.setCell (p := ⟨w.heap.size + 1, 0, none⟩) (by dsimp only; omega) (.slice (some ⟨W4.heap.size, 0, none⟩) 0 0)
   have KW : Kw (((W6).setCell ⟨w.heap.size + 1, 0, none⟩ (.slice (some ⟨W4.heap.size, 0, none⟩) 0 0))) ((((W6).setCell ⟨w.heap.size + 1, 0, none⟩ (.slice (some ⟨W4.heap.size, 0, none⟩) 0 0))).setCell ⟨w.heap.size + 1, 1, none⟩ (.slice Ao 1 co)) := Kw.store (c := (.slice none 0 0)) r0 rfl trivial _
   replace o := o.stored r0 (by decide) KW
   replace g0 := g0.stored r0 (by decide) KW
   replace b0 := b0.fr (w.heap.size + 1) 1 (.slice Ao 1 co)
   replace e1 := e1.fr (w.heap.size + 1) 1 (.slice Ao 1 co)
   replace r0 : Bx 80 ((((W6).setCell ⟨w.heap.size + 1, 0, none⟩ (.slice (some ⟨W4.heap.size, 0, none⟩) 0 0))).setCell ⟨w.heap.size + 1, 1, none⟩ (.slice Ao 1 co)) (w.heap.size + 1) [.slice (some ⟨W4.heap.size, 0, none⟩) 0 0, .slice Ao 1 co] := r0.set 1 (.slice Ao 1 co)
   replace UP := UP.setCell (p := ⟨w.heap.size + 1, 1, none⟩) (by dsimp only; omega) (.slice Ao 1 co)
   clear KW
   generalize ((((W6).setCell ⟨w.heap.size + 1, 0, none⟩ (.slice (some ⟨W4.heap.size, 0, none⟩) 0 0))).setCell ⟨w.heap.size + 1, 1, none⟩ (.slice Ao 1 co)) = W7 at *
   clear b0_0 b0_1 r0_0 r0_1
   obtain ⟨b0_0, b0_1⟩ := b0.c2
   obtain ⟨r0_0, r0_1⟩ := r0.c2
   go_wp2_with fail
   exact bodyPost_ret (run_res_cell rfl rfl agg_rfun size_rfun r0 rfl) rfl ⟨_, _, _, _, rfl, g0, o.re HLR.out.snd.lq, HCN, HLR, HLE.out _ _ HCN.out, UP⟩
 have hx0 : ((N.length : Int) == 0) = false := by simp [hN]
 have HNN : Hid (Pq.nm q ≠ []) := Lib.hid (by rw [HN.out]; exact hN)
 have HPE : Hid (p = P ∧ q = D) := Lib.hid ⟨by rw [← HP.out]; exact (Pq.pu_of HNN.out).symm, by rw [← HD.out]; exact (Pq.pd_of HNN.out).symm⟩
 by_cases hM : M = []
 · have hl0 : M.length = 0 := by rw [hM]; rfl
   have HE : Hid (Pq.nm P = []) := Lib.hid (by rw [← HPE.out.1, HM.out]; exact hM)
   have hx1 : ((M.length : Int) == 0) = true := by simp [hl0]
   clear hM hN
   have HCN : Hid (Pq.Can P D [] [1]) := Lib.hid (Pq.can_zero (by exact HE.out))
   have HLR := Lib.hid (HSM.out _ _ HCN.out)
   clear m1 m2
   have b0_0a := cA b0_0
   have b0_1a := cA b0_1
   have r0_0a := cA r0_0
   have r0_f0a := r0.fa
   have r0_1a := cA r0_1
   go_wp2_with fail
   clear b0_0a b0_1a r0_0a r0_f0a r0_1a
   have e1 := Bx.new 24 W4 []
   have b0_lt_e1 := b0.lt
   have r0_lt_e1 := r0.lt
   have nu := ((Up.refl W4).alloc (.cells #[] 24))
   refine li3 nu b0 r0 UP ?_; clear b0 r0 UP nu; intro b0 r0 UP
   generalize (W4.alloc (.cells #[] 24)) = W5 at *
   clear b0_0 b0_1 r0_0 r0_1
   obtain ⟨b0_0, b0_1⟩ := b0.c2
   obtain ⟨r0_0, r0_1⟩ := r0.c2
   replace r0_f0 := r0.free
   ((with_reducible refine (ref_one15 _).mono ?_))
   rintro e W6 ⟨V6, rfl, o, u6⟩
   obtain ⟨Ao, co, rfl⟩ := o.form
   revert e1 b0 r0 UP b0_0 b0_1 r0_0 r0_1; refine lg8 u6 ?_; intro e1 b0 r0 UP b0_0 b0_1 r0_0 r0_1
   replace r0_f0 := r0.free
   clear u6
   have g0 := g_nil (k := K) e1
   go_wp2_with fail
   have KW : Kw (W6) ((W6).setCell ⟨w.heap.size + 1, 0, none⟩ (.slice (some ⟨W4.heap.size, 0, none⟩) 0 0)) := Kw.store (c := (.slice none 0 0)) r0 rfl trivial _
   replace o := o.stored r0 (by decide) KW
   replace g0 := g0.stored r0 (by decide) KW
   replace b0 := b0.fr (w.heap.size + 1) 0 (.slice (some ⟨W4.heap.size, 0, none⟩) 0 0)
   replace e1 := e1.fr (w.heap.size + 1) 0 (.slice (some ⟨W4.heap.size, 0, none⟩) 0 0)
   replace r0 : Bx 80 ((W6).setCell ⟨w.heap.size + 1, 0, none⟩ (.slice (some ⟨W4.heap.size, 0, none⟩) 0 0)) (w.heap.size + 1) [.slice (some ⟨W4.heap.size, 0, none⟩) 0 0, .slice none 0 0] := r0.set 0 (.slice (some ⟨W4.heap.size, 0, none⟩) 0 0)
   replace UP := UP.setCell (p := ⟨w.heap.size + 1, 0, none⟩) (by dsimp only; omega) (.slice (some ⟨W4.heap.size, 0, none⟩) 0 0)
   have KW : Kw (((W6).setCell ⟨w.heap.size + 1, 0, none⟩ (.slice (some ⟨W4.heap.size, 0, none⟩) 0 0))) ((((W6).setCell ⟨w.heap.size + 1, 0, none⟩ (.slice (some ⟨W4.heap.size, 0, none⟩) 0 0))).setCell ⟨w.heap.size + 1, 1, none⟩ (.slice Ao 1 co)) := Kw.store (c := (.slice none 0 0)) r0 rfl trivial _
   replace o := o.stored r0 (by decide) KW
   replace g0 := g0.stored r0 (by decide) KW
   replace b0 := b0.fr (w.heap.size + 1) 1 (.slice Ao 1 co)
   replace e1 := e1.fr (w.heap.size + 1) 1 (.slice Ao 1 co)
   replace r0 : Bx 80 ((((W6).setCell ⟨w.heap.size + 1, 0, none⟩ (.slice (some ⟨W4.heap.size, 0, none⟩) 0 0))).setCell ⟨w.heap.size + 1, 1, none⟩ (.slice Ao 1 co)) (w.heap.size + 1) [.slice (some ⟨W4.heap.size, 0, none⟩) 0 0, .slice Ao 1 co] := r0.set 1 (.slice Ao 1 co)
   replace UP := UP.setCell (p := ⟨w.heap.size + 1, 1, none⟩) (by dsimp only; omega) (.slice Ao 1 co)
   clear KW
   generalize ((((W6).setCell ⟨w.heap.size + 1, 0, none⟩ (.slice (some ⟨W4.heap.size, 0, none⟩) 0 0))).setCell ⟨w.heap.size + 1, 1, none⟩ (.slice Ao 1 co)) = W7 at *
   clear b0_0 b0_1 r0_0 r0_1
   obtain ⟨b0_0, b0_1⟩ := b0.c2
   obtain ⟨r0_0, r0_1⟩ := r0.c2
   go_wp2_with fail
   exact bodyPost_ret (run_res_cell rfl rfl agg_rfun size_rfun r0 rfl) rfl ⟨_, _, _, _, rfl, g0, o.re HLR.out.snd.lq, HCN, HLR, HLE.out _ _ HCN.out, UP⟩
 have hx1 : ((M.length : Int) == 0) = false := by simp [hM]
 have HM0 := Lib.hid hM
 have HN0 := Lib.hid hN
 clear hM hN
 have HKG : Hid (∀ n, (∀ i, i < n → (Pq.gst M N i).2 ≠ []) → Pq.Lp (Pq.gst M N n).1 K ∧ Pq.Lp (Pq.gst M N n).2 K) := Lib.hid (fun n hn => Pq.gst_small LPM.out LPN.out lM lN (by omega) hK hjK n hn)
 go_wp2_with fail
 ((with_reducible refine (ref_gcd14 (m := m) (D := DD) (K := K) (Z := Z) m1.q m2.q lM lN (by omega) LPM.out LPN.out (by omega) HKG hDD hZ hZZ (by omega) (by omega)).mono ?_))
 rintro e W5 ⟨V5, gg, rfl, g, ig, u5⟩
 obtain ⟨Ag, cg, rfl⟩ := g.form
 replace ig := Lib.hid ig
 refine li9 u5 m1 m2 b0 r0 UP b0_0 b0_1 r0_0 r0_1 ?_
 clear m1 m2 b0 r0 UP b0_0 b0_1 r0_0 r0_1
 intro m1 m2 b0 r0 UP b0_0 b0_1 r0_0 r0_1
 replace r0_f0 := r0.free
 clear u5
 have hgne : Hid (gg ≠ []) := Lib.hid (ig.out.ne (.inr (by rw [Pq.nm_of_tr TN.out]; exact HN0.out)))
 have HGN : Hid (Pq.nm gg ≠ []) := Lib.hid (by rw [Pq.nm_of_tr ig.out.1.tr]; exact hgne.out)
 have HSG := Lib.hid (ig.out.small HKG.out lM lN)
 have TG : Hid (Pq.Tr gg) := Lib.hid ig.out.1.tr
 obtain ⟨K', hK'⟩ : ∃ K', K' = 2 * K + (m + 1) * (K + 1) := ⟨_, rfl⟩
 have hK'2 : K' ≤ Z + Z := by omega
 have hD1 : j + K + (m + 1) * (K + 1) ≤ K' := by omega
 have hKK' : K ≤ K' := by omega
 obtain ⟨X, HX⟩ : ∃ r, Hid (Pq.dq M gg = r) := ⟨_, Lib.hid rfl⟩
 obtain ⟨Y, HY⟩ : ∃ r, Hid (Pq.dq N gg = r) := ⟨_, Lib.hid rfl⟩
 go_wp2_with fail
 ((with_reducible refine (rdiv15 (K := K') m1.q g.q TM.out TG.out hgne.out lM HSG.out.2 (by omega) LPM.out HSG.out.1 hD1 (by omega) (by omega) hKK' HX).mono ?_))
 rintro e W6 ⟨V6, R6, rfl, x, x_, u6⟩
 obtain ⟨Ax, cx, rfl⟩ := x.form
 obtain ⟨Ax_, cx_, rfl⟩ := x_.form
 revert g m1 m2 b0 r0 UP b0_0 b0_1 r0_0 r0_1
 refine lg10 u6 ?_
 intro g m1 m2 b0 r0 UP b0_0 b0_1 r0_0 r0_1
 replace r0_f0 := r0.free
 clear u6
 go_wp2_with fail
 ((with_reducible refine (rdiv15 (K := K') m2.q g.q TN.out TG.out hgne.out lN HSG.out.2 (by omega) LPN.out HSG.out.1 hD1 (by omega) (by omega) hKK' HY).mono ?_))
 rintro e W7 ⟨V7, R7, rfl, y, y_, u7⟩
 obtain ⟨Ay, cy, rfl⟩ := y.form
 obtain ⟨Ay_, cy_, rfl⟩ := y_.form
 revert x x_ g m1 m2 b0 r0 UP b0_0 b0_1 r0_0 r0_1
 refine lg12 u7 ?_
 intro x x_ g m1 m2 b0 r0 UP b0_0 b0_1 r0_0 r0_1
 replace r0_f0 := r0.free
 clear u7
 have igP : Hid (Pq.IsGcd P D gg) := Lib.hid (ig.out.ext (fun t => by rw [← HM.out, Pq.E_nm, HPE.out.1]) (fun t => by rw [← HN.out, Pq.E_nm, HPE.out.2]))
 have HQP : Hid (∀ t, Pq.E P t = Pq.E X t * Pq.E gg t) := Lib.hid (fun t => by rw [← HX.out, ← Pq.div_exact ig.out.2.1 hgne.out ig.out.1, ← HM.out, Pq.E_nm, HPE.out.1])
 have HQD : Hid (∀ t, Pq.E D t = Pq.E Y t * Pq.E gg t) := Lib.hid (fun t => by rw [← HY.out, ← Pq.div_exact ig.out.2.2.1 hgne.out ig.out.1, ← HN.out, Pq.E_nm, HPE.out.2])
 have TY : Hid (Pq.nm Y = Y) := Lib.hid (by rw [← HY.out]; exact Pq.nm_of_tr (Pq.dq_tr _ _))
 have HNE : Hid (Y ≠ []) := Lib.hid (fun e => DN.out (Pq.nm_nil fun t => by rw [HQD.out, Pq.E_of_nil (by rw [e]; rfl), Rat.zero_mul]))
 have qx := x.q
 have qy := y.q
 clear m1 m2 g x x_ y y_
 have LY : Hid (∀ t ∈ Y, Wd.Lq t K') := Lib.hid qy.lq
 obtain ⟨t, HT⟩ : ∃ t, Hid (Y.length = t + 1) := ⟨Y.length - 1, Lib.hid (by have := List.length_pos_iff.2 HNE.out; omega)⟩
 have HTY : Hid (t < Y.length) := Lib.hid (by have := HT.out; omega)
 have HYm : Hid (Y.length ≤ 1002) := Lib.hid (by rw [← HY.out]; exact Nat.le_trans (Pq.dq_len _ _) (by omega))
 have HXm : Hid (X.length ≤ 1002) := Lib.hid (by rw [← HX.out]; exact Nat.le_trans (Pq.dq_len _ _) (by omega))
 have UPo := Lib.hid UP
 clear UP
 have UP := Up.refl W7
 obtain ⟨b, oo, s, B0, m0, f, D0, n', f', e0, hb, g1, g2, g3, FX0⟩ := Sq.at_ (kp_qk K') qy.sq HTY.out
 subst e0
 have LX := LY.out _ (List.getElem_mem HTY.out)
 have HXD : Hid (Y[t]'HTY.out = (Pq.nm Y).getD ((Pq.nm Y).length - 1) 0) := Lib.hid (by rw [TY.out, show Y.length - 1 = t by have := HT.out; omega, Pq.getD_at HTY.out])
 generalize Y[t]'HTY.out = z at *
 have FX : Qw W7 (.agg #[.bool s, .slice B0 m0 f, .slice D0 n' f']) z := Qk.qw FX0
 have HOLD : Hid (∀ w', Up W7 w' → w'.cell? ⟨b, oo + t * 3, none⟩ = some (.bool s) ∧ w'.cell? ⟨b, oo + t * 3 + 1, none⟩ = some (.slice B0 m0 f) ∧ w'.cell? ⟨b, oo + t * 3 + 2, none⟩ = some (.slice D0 n' f')) := Lib.hid (fun w' hu => ⟨hu.keeps g1, hu.keeps g2, hu.keeps g3⟩)
 clear g1 g2 g3 hb FX0 r0_0 r0_1 r0_f0
 have k3 : IntKind.i64.wrap ((Y.length : Int) - 1) = (t : Int) := by have := HT.out; have := HYm.out; rw [IntKind.wrap_i64]; omega
 have k5 : (t : Int) < (Y.length : Int) := by have := HTY.out; omega
 obtain ⟨P0, HP0⟩ : ∃ P, Hid (((1 : Int) : Rat) = P) := ⟨_, Lib.hid rfl⟩
 have LO : Wd.Lq P0 2 := by rw [← HP0.out]; exact lq_int (by omega)
 obtain ⟨cc, HC⟩ : ∃ c, Hid (P0 / z = c) := ⟨_, Lib.hid rfl⟩
 have LC : Wd.Lq cc (2 + K') := by rw [← HC.out]; exact LO.div LX
 have HX1 : Hid (cc = 1 / (Pq.nm Y).getD ((Pq.nm Y).length - 1) 0) := Lib.hid (by rw [← HC.out, ← HP0.out, HXD.out]; rfl)
 have HCN := Lib.hid (Pq.can_of DN.out igP.out.2.2.2 HGN.out HQP.out HQD.out HX1.out)
 rw [TY.out] at HCN
 obtain ⟨R1, HR1⟩ : ∃ r, Hid (Pq.nm (Pq.sc cc X) = r) := ⟨_, Lib.hid rfl⟩
 obtain ⟨R2, HR2⟩ : ∃ r, Hid (Pq.nm (Pq.sc cc Y) = r) := ⟨_, Lib.hid rfl⟩
 rw [HR1.out, HR2.out] at HCN
 have HLR := Lib.hid (HSM.out _ _ HCN.out)
 have HL1 := Lib.hid HLR.out.fst.lq
 have HL2 := Lib.hid HLR.out.snd.lq
 obtain ⟨r0_0, r0_1⟩ := r0.c2
 have r0_f0 := r0.free
 have HQX := Lib.hid qx
 have HQY := Lib.hid qy
 clear qx qy
 go_wp2_with fail
 refine li5 (Up.refl W7).drew FX r0 UP r0_0 r0_1 ?_
 clear FX r0 UP r0_0 r0_1
 intro FX r0 UP r0_0 r0_1
 replace r0_f0 := r0.free
 refine wp_region_noPanic ?_
 refine wp_region_held_drew (S := fun w' => Up W7 w' ∧ w'.cell? ⟨w.heap.size + 1, 0, none⟩ = some (.slice none 0 0) ∧ w'.cell? ⟨w.heap.size + 1, 1, none⟩ = some (.slice none 0 0) ∧ (w'.cell? ⟨b, oo + t * 3, none⟩ = some (.bool s) ∧ w'.cell? ⟨b, oo + t * 3 + 1, none⟩ = some (.slice B0 m0 f) ∧ w'.cell? ⟨b, oo + t * 3 + 2, none⟩ = some (.slice D0 n' f'))) (by kernel_rfl) (by exact ⟨UP, r0_0, r0_1, HOLD.out _ UP⟩) (fun hHeld => ?_)
 clear hHeld
 generalize W7.drew = WC at *
 have hHeld : Up W7 WC ∧ WC.cell? ⟨w.heap.size + 1, 0, none⟩ = some (.slice none 0 0) ∧ WC.cell? ⟨w.heap.size + 1, 1, none⟩ = some (.slice none 0 0) ∧ (WC.cell? ⟨b, oo + t * 3, none⟩ = some (.bool s) ∧ WC.cell? ⟨b, oo + t * 3 + 1, none⟩ = some (.slice B0 m0 f) ∧ WC.cell? ⟨b, oo + t * 3 + 2, none⟩ = some (.slice D0 n' f')) := by exact ⟨UP, r0_0, r0_1, HOLD.out _ UP⟩
 refine tk 1 ?_
 try simp only [gs, Act.put]
 refine tk 2 ?_
 try simp only [gs, Act.put]
 refine tk 3 ?_
 try simp only [gs, Act.put]
 refine tk 4 ?_
 try simp only [gs, Act.put]
 refine tk 5 ?_
 try simp only [gs, Act.put]
 refine tk 6 ?_
 try simp only [gs, Act.put]
 repeat' first
  | refine wpAnyH_ready (rs := [0, 8]) (by decide +kernel) (by simp) ?_
  | refine wpAnyH_ready (rs := [0]) (by decide +kernel) (by simp) ?_
  | refine wpAnyH_ready (rs := [7, 8]) (by decide +kernel) (by simp) ?_
  | refine wpAnyH_ready (rs := [7]) (by decide +kernel) (by simp) ?_
  | refine wpAnyH_ready (rs := [8]) (by decide +kernel) (by simp) ?_
  | refine wpAnyH_ready (rs := [9]) (by decide +kernel) (by simp) ?_
  | refine AllReadyH.cons (i := 0) rfl (fun K hK0 => ?_) ?_
  | refine AllReadyH.cons (i := 7) rfl (fun K hK7 => ?_) ?_
  | refine AllReadyH.cons (i := 8) rfl (fun K hK8 => ?_) ?_
  | refine AllReadyH.cons (i := 9) rfl (fun K hK9 => ?_) ?_
  | exact AllReadyH.nil
  | (have hK := hK0
     clear hK0
     (try clear hHeld)
     go_simp
     go_at_call 65
     ((with_reducible refine (ref9_int (n := 1) (by omega) _).mono ?_))
     rintro e WD ⟨V0, rfl, o, uu⟩
     refine li3 uu FX r0 UP ?_; clear FX r0 UP; intro FX r0 UP
     try (replace y := y.up uu)
     try (replace od := od.up uu)
     try (replace yd := yd.up uu)
     try (replace x1 := x1.up uu)
     clear uu
     obtain ⟨WC, hWC⟩ : ∃ W, W = WD := ⟨_, rfl⟩
     subst hWC
     replace r0_f0 := r0.free
     clear r0_0 r0_1
     obtain ⟨r0_0, r0_1⟩ := r0.c2
     rw [HP0.out] at o
     obtain ⟨Xo, Yo, rfl, o, od⟩ := o
     obtain ⟨Ao, no, co, rfl⟩ := o.shape
     obtain ⟨Aod, nod, cod, rfl⟩ := od.shape
     try go_wp2_with fail
     refine hK.out _ _ (by exact ⟨UP, r0_0, r0_1, HOLD.out _ UP⟩) (fun hHeld => ?_)
     clear hK K
     try simp only [gs, Act.put])
  | (have hK := hK7
     clear hK7
     (try clear hHeld)
     go_simp
     go_at_call 100
     ((with_reducible refine (ref9_quo (qw_of o od) FX LO LX (by omega) (by omega)).mono ?_))
     rintro e WD ⟨V7, rfl, y, uu⟩
     refine li3 uu FX r0 UP ?_; clear FX r0 UP; intro FX r0 UP
     try (replace o := o.up uu)
     try (replace od := od.up uu)
     try (replace yd := yd.up uu)
     try (replace x1 := x1.up uu)
     clear uu
     obtain ⟨WC, hWC⟩ : ∃ W, W = WD := ⟨_, rfl⟩
     subst hWC
     replace r0_f0 := r0.free
     clear r0_0 r0_1
     obtain ⟨r0_0, r0_1⟩ := r0.c2
     rw [HC.out] at y
     obtain ⟨Xy, Yy, rfl, y, yd⟩ := y
     obtain ⟨Ay, ny, cy, rfl⟩ := y.shape
     obtain ⟨Ayd, nyd, cyd, rfl⟩ := yd.shape
     try go_wp2_with fail
     refine hK.out _ _ (by exact ⟨UP, r0_0, r0_1, HOLD.out _ UP⟩) (fun hHeld => ?_)
     clear hK K
     try simp only [gs, Act.put])
  | (have hK := hK8
     clear hK8
     (try clear hHeld)
     go_simp
     have x1 := Bx.new 24 WC [.bool false, .slice none 0 0, .slice none 0 0]
     have r0_lt_x1 := r0.lt
     have x1_base := UP.size
     have nu := ((Up.refl WC).alloc (.cells #[.bool false, .slice none 0 0, .slice none 0 0] 24))
     refine li3 nu FX r0 UP ?_; clear FX r0 UP; intro FX r0 UP
     try (replace o := o.up nu)
     try (replace y := y.up nu)
     try (replace od := od.up nu)
     try (replace yd := yd.up nu)
     clear nu
     generalize WC.alloc (.cells #[.bool false, .slice none 0 0, .slice none 0 0] 24) = WD at *
     generalize WC.heap.size = gx1 at *
     obtain ⟨WC, hWC⟩ : ∃ W, W = WD := ⟨_, rfl⟩
     subst hWC
     replace r0_f0 := r0.free
     clear r0_0 r0_1
     obtain ⟨r0_0, r0_1⟩ := r0.c2
     refine hK.out _ _ (by exact ⟨UP, r0_0, r0_1, HOLD.out _ UP⟩) (fun hHeld => ?_)
     clear hK K
     try simp only [gs, Act.put])
  | (have hK := hK9
     clear hK9
     (try clear hHeld)
     obtain ⟨ce0, ce1, ce2⟩ := x1.c3
     have fr0 := x1.free 0
     have fr1 := x1.free 1
     have fr2 := x1.free 2
     go_simp
     clear ce0 ce1 ce2 fr0 fr1 fr2
     have KW : Kw (WC) ((WC).setCell ⟨gx1, 0, none⟩ (.bool (Wd.ngb cc.num))) := Kw.store (c := (.bool false)) x1 rfl trivial _
     replace FX := FX.kw KW
     try (replace o := o.stored2 o_ne_x1 KW)
     try (replace y := y.kw KW)
     try (replace od := od.kw KW)
     try (replace yd := yd.kw KW)
     replace r0 := r0.fr gx1 0 (.bool (Wd.ngb cc.num))
     replace x1 : Bx 24 ((WC).setCell ⟨gx1, 0, none⟩ (.bool (Wd.ngb cc.num))) (gx1) [.bool (Wd.ngb cc.num), .slice none 0 0, .slice none 0 0] := x1.set 0 (.bool (Wd.ngb cc.num))
     replace UP := UP.setCell (p := ⟨gx1, 0, none⟩) (by dsimp only; omega) (.bool (Wd.ngb cc.num))
     have KW : Kw (((WC).setCell ⟨gx1, 0, none⟩ (.bool (Wd.ngb cc.num)))) ((((WC).setCell ⟨gx1, 0, none⟩ (.bool (Wd.ngb cc.num)))).setCell ⟨gx1, 1, none⟩ (.slice Ay ny cy)) := Kw.store (c := (.slice none 0 0)) x1 rfl trivial _
     replace FX := FX.kw KW
     try (replace o := o.stored2 o_ne_x1 KW)
     try (replace y := y.kw KW)
     try (replace od := od.kw KW)
     try (replace yd := yd.kw KW)
     replace r0 := r0.fr gx1 1 (.slice Ay ny cy)
     replace x1 : Bx 24 ((((WC).setCell ⟨gx1, 0, none⟩ (.bool (Wd.ngb cc.num)))).setCell ⟨gx1, 1, none⟩ (.slice Ay ny cy)) (gx1) [.bool (Wd.ngb cc.num), .slice Ay ny cy, .slice none 0 0] := x1.set 1 (.slice Ay ny cy)
     replace UP := UP.setCell (p := ⟨gx1, 1, none⟩) (by dsimp only; omega) (.slice Ay ny cy)
     have KW : Kw (((((WC).setCell ⟨gx1, 0, none⟩ (.bool (Wd.ngb cc.num)))).setCell ⟨gx1, 1, none⟩ (.slice Ay ny cy))) ((((((WC).setCell ⟨gx1, 0, none⟩ (.bool (Wd.ngb cc.num)))).setCell ⟨gx1, 1, none⟩ (.slice Ay ny cy))).setCell ⟨gx1, 2, none⟩ (.slice Ayd nyd cyd)) := Kw.store (c := (.slice none 0 0)) x1 rfl trivial _
     replace FX := FX.kw KW
     try (replace o := o.stored2 o_ne_x1 KW)
     try (replace y := y.kw KW)
     try (replace od := od.kw KW)
     try (replace yd := yd.kw KW)
     replace r0 := r0.fr gx1 2 (.slice Ayd nyd cyd)
     replace x1 : Bx 24 ((((((WC).setCell ⟨gx1, 0, none⟩ (.bool (Wd.ngb cc.num)))).setCell ⟨gx1, 1, none⟩ (.slice Ay ny cy))).setCell ⟨gx1, 2, none⟩ (.slice Ayd nyd cyd)) (gx1) [.bool (Wd.ngb cc.num), .slice Ay ny cy, .slice Ayd nyd cyd] := x1.set 2 (.slice Ayd nyd cyd)
     replace UP := UP.setCell (p := ⟨gx1, 2, none⟩) (by dsimp only; omega) (.slice Ayd nyd cyd)
     clear KW
     generalize ((((((WC).setCell ⟨gx1, 0, none⟩ (.bool (Wd.ngb cc.num)))).setCell ⟨gx1, 1, none⟩ (.slice Ay ny cy))).setCell ⟨gx1, 2, none⟩ (.slice Ayd nyd cyd)) = WD at *
     obtain ⟨WC, hWC⟩ : ∃ W, W = WD := ⟨_, rfl⟩
     subst hWC
     replace r0_f0 := r0.free
     clear r0_0 r0_1
     obtain ⟨r0_0, r0_1⟩ := r0.c2
     refine hK.out _ _ (by exact ⟨UP, r0_0, r0_1, HOLD.out _ UP⟩) (fun hHeld => ?_)
     clear hK K
     try simp only [gs, Act.put])
  | refine wpAnyH_done (by decide +kernel) (NoPanic.normal ?_) _
  | fail
 all_goals try clear hHeld
 all_goals obtain ⟨x1_0, x1_1, x1_2⟩ := x1.c3
 all_goals
  have fp := HQX.out.up UP
  have rf := HQY.out.up UP
  replace UP := UPo.out.trans UP
  clear r0_0 r0_1 r0_f0 x1_0 x1_1 x1_2
  obtain ⟨r0_0, r0_1⟩ := r0.c2
  have r0_f0 := r0.free
  obtain ⟨x1_0, x1_1, x1_2⟩ := x1.c3
  go_wp2_with fail
  clear x1_0 x1_1 x1_2; refine li7 (Up.refl WC).drew fp rf y yd r0 x1 UP ?_; clear fp rf y yd r0 x1 UP; intro fp rf y yd r0 x1 UP
  obtain ⟨r0_0, r0_1⟩ := r0.c2
  have r0_f0 := r0.free
  obtain ⟨x1_0, x1_1, x1_2⟩ := x1.c3
  refine wp_region_noPanic ?_
  refine wp_region_held_drew (S := fun w' => Up w w' ∧ w'.cell? ⟨gx1, 0, none⟩ = some (.bool (Wd.ngb cc.num)) ∧ w'.cell? ⟨gx1, 1, none⟩ = some (.slice Ay ny cy) ∧ w'.cell? ⟨gx1, 2, none⟩ = some (.slice Ayd nyd cyd)) (by kernel_rfl) ?_ (fun hHeld => ?_)
  · with_reducible exact ⟨UP, x1_0, x1_1, x1_2⟩
  refine tk 0 ?_
  try simp only [gs, Act.put]
  refine tk 1 ?_
  try simp only [gs, Act.put]
  refine tk 3 ?_
  try simp only [gs, Act.put]
  refine tk 4 ?_
  try simp only [gs, Act.put]
  refine rd 2 (fun K hK => ?_)
  go_simp
  (first
    | (go_at_call 42
       ((with_reducible refine (ref_scale14 (Qk.of (qw_of y yd) LC) fp (by have := HXm.out; omega) (by omega) (by omega) HR1 HL1).mono ?_))
       rintro e W51 ⟨V51, rfl, s1, u51⟩
       obtain ⟨As1, cs1, rfl⟩ := s1.form
       clear x1_0 x1_1 x1_2; revert fp rf y yd r0 x1 UP r0_0 r0_1; refine lg9 u51 ?_; intro fp rf y yd r0 x1 UP r0_0 r0_1
       try (replace s1 := s1.up u51)
       try (replace s2 := s2.up u51)
       replace r0_f0 := r0.free
       obtain ⟨x1_0, x1_1, x1_2⟩ := x1.c3
       clear u51))
  try go_wp2_with fail
  try clear hHeld
  refine hK.out _ _ ?_ (fun hHeld => ?_)
  · with_reducible exact ⟨UP, x1_0, x1_1, x1_2⟩
  clear hK K
  try simp only [gs, Act.put]
  refine rd 5 (fun K hK => ?_)
  go_simp
  (first
    | (go_at_call 42
       ((with_reducible refine (ref_scale14 (Qk.of (qw_of y yd) LC) rf (by have := HYm.out; omega) (by omega) (by omega) HR2 HL2).mono ?_))
       rintro e W52 ⟨V52, rfl, s2, u52⟩
       obtain ⟨As2, cs2, rfl⟩ := s2.form
       clear x1_0 x1_1 x1_2; revert fp rf y yd r0 x1 UP r0_0 r0_1; refine lg9 u52 ?_; intro fp rf y yd r0 x1 UP r0_0 r0_1
       try (replace s1 := s1.up u52)
       try (replace s2 := s2.up u52)
       replace r0_f0 := r0.free
       obtain ⟨x1_0, x1_1, x1_2⟩ := x1.c3
       clear u52))
  try go_wp2_with fail
  try clear hHeld
  refine hK.out _ _ ?_ (fun hHeld => ?_)
  · with_reducible exact ⟨UP, x1_0, x1_1, x1_2⟩
  clear hK K
  try simp only [gs, Act.put]
  refine tk 6 ?_
  try simp only [gs, Act.put]
  refine rd 7 (fun K hK => ?_)
  go_simp
  skip
  try go_wp2_with fail
  try clear hHeld
  refine hK.out _ _ ?_ (fun hHeld => ?_)
  · (first | with_reducible exact ⟨UP, x1_0, x1_1, x1_2⟩ | with_reducible exact ⟨(us (us UP)), (cf (cf x1_0)), (cf (cf x1_1)), (cf (cf x1_2))⟩)
  clear hK K
  try simp only [gs, Act.put]
  refine wpAnyH_done (by kernel_rfl) ?_ _
  refine NoPanic.normal ?_
  clear hHeld
  clear fp rf
  have KW : Kw (W52) ((W52).setCell ⟨w.heap.size + 1, 0, none⟩ (.slice As1 R1.length cs1)) := Kw.store (c := (.slice none 0 0)) r0 rfl trivial _
  revert y yd; refine lg2 KW ?_; intro y yd
  replace s1 := s1.stored r0 (by decide) KW
  replace s2 := s2.stored r0 (by decide) KW
  replace x1 := x1.fr (w.heap.size + 1) 0 (.slice As1 R1.length cs1)
  replace r0 : Bx 80 ((W52).setCell ⟨w.heap.size + 1, 0, none⟩ (.slice As1 R1.length cs1)) (w.heap.size + 1) [.slice As1 R1.length cs1, .slice none 0 0] := r0.set 0 (.slice As1 R1.length cs1)
  replace UP := UP.setCell (p := ⟨w.heap.size + 1, 0, none⟩) (by dsimp only; omega) (.slice As1 R1.length cs1)
  have KW : Kw (((W52).setCell ⟨w.heap.size + 1, 0, none⟩ (.slice As1 R1.length cs1))) ((((W52).setCell ⟨w.heap.size + 1, 0, none⟩ (.slice As1 R1.length cs1))).setCell ⟨w.heap.size + 1, 1, none⟩ (.slice As2 R2.length cs2)) := Kw.store (c := (.slice none 0 0)) r0 rfl trivial _
  revert y yd; refine lg2 KW ?_; intro y yd
  replace s1 := s1.stored r0 (by decide) KW
  replace s2 := s2.stored r0 (by decide) KW
  replace x1 := x1.fr (w.heap.size + 1) 1 (.slice As2 R2.length cs2)
  replace r0 : Bx 80 ((((W52).setCell ⟨w.heap.size + 1, 0, none⟩ (.slice As1 R1.length cs1))).setCell ⟨w.heap.size + 1, 1, none⟩ (.slice As2 R2.length cs2)) (w.heap.size + 1) [.slice As1 R1.length cs1, .slice As2 R2.length cs2] := r0.set 1 (.slice As2 R2.length cs2)
  replace UP := UP.setCell (p := ⟨w.heap.size + 1, 1, none⟩) (by dsimp only; omega) (.slice As2 R2.length cs2)
  clear KW
  generalize ((((W52).setCell ⟨w.heap.size + 1, 0, none⟩ (.slice As1 R1.length cs1))).setCell ⟨w.heap.size + 1, 1, none⟩ (.slice As2 R2.length cs2)) = W53 at *
  clear r0_0 r0_1 x1_0 x1_1 x1_2
  obtain ⟨r0_0, r0_1⟩ := r0.c2
  obtain ⟨x1_0, x1_1, x1_2⟩ := x1.c3
  go_wp2_with fail
  exact bodyPost_ret (run_res_cell rfl rfl agg_rfun size_rfun r0 rfl) rfl ⟨_, _, _, _, rfl, s1.g, s2.g, HCN, HLR, HLE.out _ _ HCN.out, UP⟩
end Go.Proofs.YtmmcffceeahemaaGreat
