/-
  Layer 15: the quotient of two polynomials, and of two functions, by 0 too.
-/
import Derived.Test.YtmmcffceeahemaaGreatZsRatfLaw
import Derived.Test.YtmmcffceeahemaaGreatZsShort
set_option linter.unusedVariables false
set_option linter.unusedSimpArgs false
namespace Pq
theorem pu_nil {p q : List Rat} (h : nm q = []) : pu p q = [] := if_pos h
theorem pd_nil {p q : List Rat} (h : nm q = []) : pd p q = [1] := if_pos h
end Pq
namespace Go.Proofs.YtmmcffceeahemaaGreat
open Go.RowKit
set_option maxRecDepth 100000 in
set_option maxHeartbeats 3200000 in
theorem ratf_newp {v u : Value} {p q P D : List Rat} {ka j m K : Nat} {w : World} (h : FSq ka w v p) (h2 : FSq ka w u q) (hl : p.length ≤ m) (hl2 : q.length ≤ m) (hm1 : 1 ≤ m) (hm : m ≤ 1000) (LJ : Pq.Lp (p ++ q) j) (hK : 2 * m * (j + 1) ≤ K) (hK2 : (m + 3) * (K + 1) ≤ 3000000) (hka : ka ≤ 2000000) (HP : Hid (Pq.pu p q = P)) (HD : Hid (Pq.pd p q = D)) {t : Bool} (HT : Hid ((!decide (Pq.nm q = [])) = t)) :
 Calls Tryz.prog 63 #[v, u] w (RetFnB t K m P D w) := by
 by_cases hq : Pq.nm q = []
 · have E1 : Hid (P = [] ∧ D = [1]) := Lib.hid ⟨by rw [← HP.out]; exact Pq.pu_nil hq, by rw [← HD.out]; exact Pq.pd_nil hq⟩
   have E2 : Hid (t = false) := Lib.hid (by rw [← HT.out, decide_eq_true hq]; rfl)
   obtain ⟨rfl, rfl⟩ := E1.out
   obtain rfl := E2.out
   have HC : Hid (Pq.Can [] [1] [] [1]) := Lib.hid (Pq.can_zero rfl)
   have HN1 : Hid (Pq.nm ([1] : List Rat) ≠ []) := Lib.hid (by rw [Pq.nm_one]; simp)
   have hK3 : 2 ≤ K := by
    have h1 : 2 * 1 * (0 + 1) ≤ 2 * m * (j + 1) := Nat.mul_le_mul (by omega) (by omega)
    omega
   have HLP : Hid (Pq.Lp ([] ++ [1]) K) := Lib.hid (Pq.lp_one_row.mono (by omega))
   have HLE : Hid (([] : List Rat).length ≤ m ∧ ([1] : List Rat).length ≤ m) := Lib.hid ⟨by simp, by simpa using hm1⟩
   obtain ⟨A, c, rfl⟩ := h.form
   obtain ⟨B, d, rfl⟩ := h2.form
   obtain ⟨z, HZ⟩ : ∃ z, Hid (((Pq.nm q).length : Int) - 1 = z) := ⟨_, Lib.hid rfl⟩
   have hz : z < 0 := by have := HZ.out; rw [hq] at this; simp at this; omega
   clear hq HP HD HT
   have UP : Up w (w.alloc (.cells #[.slice none 0 0, .slice none 0 0] 84)) := (Up.refl w).alloc _
   have r0 := Bx.new 84 w [.slice none 0 0, .slice none 0 0]
   go_enter Tryz.func63, Tryz.ntmps63
   go_wp2_with fail
   generalize (w.alloc (.cells #[.slice none 0 0, .slice none 0 0] 84)) = W at *
   revert h h2; refine lg2 UP ?_; intro h h2
   obtain ⟨r0_0, r0_1⟩ := r0.c2
   have r0_f0 := r0.free
   go_wp2_with fail
   ((with_reducible refine (poly_degree h2.sq (by omega) (by omega)).mono ?_))
   rintro e W1 ⟨rfl, u1⟩
   revert UP r0 h h2 r0_0 r0_1; refine lg6 u1 ?_; intro UP r0 h h2 r0_0 r0_1
   replace r0_f0 := r0.free
   clear u1
   rw [HZ.out]
   go_wp2_with fail
   ((with_reducible refine (ratf_one _).mono ?_))
   rintro e W2 ⟨V2, rfl, o, u2⟩
   obtain ⟨Ao, co, rfl⟩ := o.form
   revert UP r0 h h2 r0_0 r0_1; refine lg6 u2 ?_; intro UP r0 h h2 r0_0 r0_1
   replace r0_f0 := r0.free
   clear u2
   simp only [List.length_cons, List.length_nil, Nat.zero_add] at o
   clear h h2
   go_wp2_with fail
   have KW : Kw (W2) ((W2).setCell ⟨w.heap.size, 0, none⟩ (.slice none 0 0)) := Kw.store (c := (.slice none 0 0)) r0 rfl trivial _
   replace o := o.stored r0 (by decide) KW
   replace r0 : Bx 84 ((W2).setCell ⟨w.heap.size, 0, none⟩ (.slice none 0 0)) (w.heap.size) [.slice none 0 0, .slice none 0 0] := r0.set 0 (.slice none 0 0)
   replace UP := UP.setCell (p := ⟨w.heap.size, 0, none⟩) (by dsimp only; omega) (.slice none 0 0)
   have KW : Kw (((W2).setCell ⟨w.heap.size, 0, none⟩ (.slice none 0 0))) ((((W2).setCell ⟨w.heap.size, 0, none⟩ (.slice none 0 0))).setCell ⟨w.heap.size, 1, none⟩ (.slice Ao 1 co)) := Kw.store (c := (.slice none 0 0)) r0 rfl trivial _
   replace o := o.stored r0 (by decide) KW
   replace r0 : Bx 84 ((((W2).setCell ⟨w.heap.size, 0, none⟩ (.slice none 0 0))).setCell ⟨w.heap.size, 1, none⟩ (.slice Ao 1 co)) (w.heap.size) [.slice none 0 0, .slice Ao 1 co] := r0.set 1 (.slice Ao 1 co)
   replace UP := UP.setCell (p := ⟨w.heap.size, 1, none⟩) (by dsimp only; omega) (.slice Ao 1 co)
   clear KW
   generalize ((((W2).setCell ⟨w.heap.size, 0, none⟩ (.slice none 0 0))).setCell ⟨w.heap.size, 1, none⟩ (.slice Ao 1 co)) = W3 at *
   clear r0_0 r0_1
   obtain ⟨r0_0, r0_1⟩ := r0.c2
   exact bodyPost_ret (run_res_cell_tmp rfl rfl agg_fun size_fun r0 rfl) rfl ⟨_, _, _, _, rfl, OwnQ.nil _ _ _ _, o.mono hK3, HC, HLP, HLE, UP⟩
 · have E1 : Hid (P = p ∧ D = q) := Lib.hid ⟨by rw [← HP.out]; exact Pq.pu_of hq, by rw [← HD.out]; exact Pq.pd_of hq⟩
   have E2 : Hid (t = true) := Lib.hid (by rw [← HT.out, decide_eq_false hq]; rfl)
   obtain ⟨rfl, rfl⟩ := E1.out
   obtain rfl := E2.out
   exact ratf_new h h2 (Lib.hid hq) hl hl2 hm LJ hK hK2 hka
set_option maxRecDepth 100000 in
set_option maxHeartbeats 3200000 in
theorem ratf_quop {v u v' u' : Value} {p q P D p' q' P' D' A0 B0 : List Rat} {k j m j' m' K : Nat} {w : World} (h : FSq k w v p) (h2 : FSq k w u q) (hl : p.length ≤ m) (hl2 : q.length ≤ m) (hm1 : 1 ≤ m) (LJ : Pq.Lp (p ++ q) j) (h' : FSq k w v' p') (h2' : FSq k w u' q') (hl' : p'.length ≤ m') (hl2' : q'.length ≤ m') (hm1' : 1 ≤ m') (LJ' : Pq.Lp (p' ++ q') j')
 (mo : Nat) (hmo : m + m' ≤ mo + 1) (hm : mo ≤ 1000) (hK : 2 * mo * (j + j' + 2) ≤ K) (hK2 : (mo + 3) * (K + 1) ≤ 3000000) (hk2 : 2 ≤ k) (hka : k ≤ 2000000) (HP : Hid (Pq.pu p q = P)) (HD : Hid (Pq.pd p q = D)) (HP' : Hid (Pq.pu p' q' = P')) (HD' : Hid (Pq.pd p' q' = D')) (HA : Hid (Pq.pu (Pq.nm (Pq.mul P D')) (Pq.nm (Pq.mul D P')) = A0)) (HB : Hid (Pq.pd (Pq.nm (Pq.mul P D')) (Pq.nm (Pq.mul D P')) = B0)) {t : Bool} (HT : Hid ((!decide (Pq.nm (Pq.nm (Pq.mul D P')) = [])) = t)) :
 Calls Tryz.prog 77 #[.agg #[v, u], .agg #[v', u']] w (RetFnB t K mo A0 B0 w) := by
 obtain ⟨A1, c1, rfl⟩ := h.form
 obtain ⟨B1, d1, rfl⟩ := h2.form
 obtain ⟨A2, c2, rfl⟩ := h'.form
 obtain ⟨B2, d2, rfl⟩ := h2'.form
 have lP : P.length ≤ m := by rw [← HP.out]; exact Nat.le_trans (Pq.pu_len p q) hl
 have lD : D.length ≤ m := by rw [← HD.out]; have := Pq.pd_len p q; omega
 have LPD : Hid (Pq.Lp (P ++ D) j) := Lib.hid (by rw [← HP.out, ← HD.out]; exact Pq.pud_lp LJ)
 have lP' : P'.length ≤ m' := by rw [← HP'.out]; exact Nat.le_trans (Pq.pu_len p' q') hl'
 have lD' : D'.length ≤ m' := by rw [← HD'.out]; have := Pq.pd_len p' q'; omega
 have LPD' : Hid (Pq.Lp (P' ++ D') j') := Lib.hid (by rw [← HP'.out, ← HD'.out]; exact Pq.pud_lp LJ')
 have hjj : j + j' + 2 ≤ 1500000 := by
  have h1 : 1 * (j + j' + 2) ≤ 2 * mo * (j + j' + 2) := Nat.mul_le_mul_right _ (by omega)
  have h3 : 4 * (K + 1) ≤ (mo + 3) * (K + 1) := Nat.mul_le_mul_right _ (by omega)
  omega
 have LS := Lib.hid (Pq.lp_prod LPD.out LPD'.out.swap (by omega) (by omega))
 have lM1 := Pq.nm_mul_len P D'
 have lM3 := Pq.nm_mul_len D P'
 have LDD := Lib.hid LS.out.snd.lq
 have LSS := Lib.hid LS.out.fst.lq
 obtain ⟨M1, HM1⟩ : ∃ r, Hid (Pq.nm (Pq.mul P D') = r) := ⟨_, Lib.hid rfl⟩
 obtain ⟨M3, HM3⟩ : ∃ r, Hid (Pq.nm (Pq.mul D P') = r) := ⟨_, Lib.hid rfl⟩
 rw [HM1.out] at LS lM1 LSS HA HB
 rw [HM3.out] at LS lM3 LDD HA HB HT
 have UP : Up w (((w.alloc (.cells #[.slice A1 p.length c1, .slice B1 q.length d1] 84)).alloc (.cells #[.slice A2 p'.length c2, .slice B2 q'.length d2] 84)).alloc (.cells #[.slice none 0 0, .slice none 0 0] 84)) := (((Up.refl w).alloc _).alloc _).alloc _
 obtain ⟨b0, b1, r0⟩ := bx_three 84 84 84 w [.slice A1 p.length c1, .slice B1 q.length d1] [.slice A2 p'.length c2, .slice B2 q'.length d2] [.slice none 0 0, .slice none 0 0]
 go_enter Tryz.func77, Tryz.ntmps77
 go_wp2_with fail
 generalize (((w.alloc (.cells #[.slice A1 p.length c1, .slice B1 q.length d1] 84)).alloc (.cells #[.slice A2 p'.length c2, .slice B2 q'.length d2] 84)).alloc (.cells #[.slice none 0 0, .slice none 0 0] 84)) = W at *
 revert h h2 h' h2'
 refine lg4 UP ?_
 intro h h2 h' h2'
 obtain ⟨b0_0, b0_1⟩ := b0.c2
 obtain ⟨b1_0, b1_1⟩ := b1.c2
 obtain ⟨r0_0, r0_1⟩ := r0.c2
 have r0_f0 := r0.free
 go_wp2_with fail
 ((with_reducible refine (ratf_parts h h2 (by omega) (by omega) hk2 HP HD).mono ?_))
 rintro e W1 ⟨V1, U1, rfl, x, y, u1⟩
 obtain ⟨Ax, cx, rfl⟩ := x.form
 obtain ⟨Ay, cy, rfl⟩ := y.form
 revert UP b0 b1 r0 h h2 h' h2' b0_0 b0_1 b1_0 b1_1
 refine lg12 u1 ?_
 intro UP b0 b1 r0 h h2 h' h2' b0_0 b0_1 b1_0 b1_1
 revert r0_0 r0_1
 refine lg2 u1 ?_
 intro r0_0 r0_1
 replace r0_f0 := r0.free
 clear u1
 go_wp2_with fail
 ((with_reducible refine (ratf_parts h' h2' (by omega) (by omega) hk2 HP' HD').mono ?_))
 rintro e W2 ⟨V2, U2, rfl, x', y', u2⟩
 obtain ⟨Ax', cx', rfl⟩ := x'.form
 obtain ⟨Ay', cy', rfl⟩ := y'.form
 revert x y UP b0 b1 r0 h h2 h' h2' b0_0 b0_1
 refine lg12 u2 ?_
 intro x y UP b0 b1 r0 h h2 h' h2' b0_0 b0_1
 revert b1_0 b1_1 r0_0 r0_1
 refine lg4 u2 ?_
 intro b1_0 b1_1 r0_0 r0_1
 replace r0_f0 := r0.free
 clear u2
 clear h h2 h' h2'
 go_wp2_with fail
 ((with_reducible refine (poly_mul_as j j' x y' LPD.out.fst LPD'.out.snd (by omega) (by omega) (by omega) (by omega) (by omega) HM1 LSS).mono ?_))
 rintro e W3 ⟨V3, rfl, a3, u3⟩
 obtain ⟨Aa3, ca3, rfl⟩ := a3.form
 revert x' y' x y UP b0 b1 r0 b0_0 b0_1 b1_0 b1_1
 refine lg12 u3 ?_
 intro x' y' x y UP b0 b1 r0 b0_0 b0_1 b1_0 b1_1
 revert r0_0 r0_1
 refine lg2 u3 ?_
 intro r0_0 r0_1
 replace r0_f0 := r0.free
 clear u3
 go_wp2_with fail
 ((with_reducible refine (poly_mul_as j j' y x' LPD.out.snd LPD'.out.fst (by omega) (by omega) (by omega) (by omega) (by omega) HM3 LDD).mono ?_))
 rintro e W4 ⟨V4, rfl, a4, u4⟩
 obtain ⟨Aa4, ca4, rfl⟩ := a4.form
 revert a3 x' y' x y UP b0 b1 r0 b0_0 b0_1 b1_0
 refine lg12 u4 ?_
 intro a3 x' y' x y UP b0 b1 r0 b0_0 b0_1 b1_0
 revert b1_1 r0_0 r0_1
 refine lg3 u4 ?_
 intro b1_1 r0_0 r0_1
 replace r0_f0 := r0.free
 clear u4
 go_wp2_with fail
 ((with_reducible refine (ratf_newp (ka := j + j' + 1) a3.fs a4.fs (by omega) (by omega) (by omega) hm LS.out hK hK2 (by omega) HA HB HT).mono ?_))
 rintro e W5 ⟨V5, U5, psa, qsa, rfl, a, b, caa, lpa, lea, u5⟩
 obtain ⟨Aa, ca, rfl⟩ := a.form
 obtain ⟨Ab, cb, rfl⟩ := b.form
 revert a4 a3 x' y' x y UP b0 b1 r0 b0_0 b0_1
 refine lg12 u5 ?_
 intro a4 a3 x' y' x y UP b0 b1 r0 b0_0 b0_1
 revert b1_0 b1_1 r0_0 r0_1
 refine lg4 u5 ?_
 intro b1_0 b1_1 r0_0 r0_1
 replace r0_f0 := r0.free
 clear u5
 clear x x' y y' a3 a4
 go_wp2_with fail
 have KW : Kw (W5) ((W5).setCell ⟨w.heap.size + 1 + 1, 0, none⟩ (.slice Aa psa.length ca)) := Kw.store (c := (.slice none 0 0)) r0 rfl trivial _
 replace a := a.stored r0 (by decide) KW
 replace b := b.stored r0 (by decide) KW
 replace b0 := b0.fr (w.heap.size + 1 + 1) 0 (.slice Aa psa.length ca)
 replace b1 := b1.fr (w.heap.size + 1 + 1) 0 (.slice Aa psa.length ca)
 replace r0 : Bx 84 ((W5).setCell ⟨w.heap.size + 1 + 1, 0, none⟩ (.slice Aa psa.length ca)) (w.heap.size + 1 + 1) [.slice Aa psa.length ca, .slice none 0 0] := r0.set 0 (.slice Aa psa.length ca)
 replace UP := UP.setCell (p := ⟨w.heap.size + 1 + 1, 0, none⟩) (by dsimp only; omega) (.slice Aa psa.length ca)
 have KW : Kw (((W5).setCell ⟨w.heap.size + 1 + 1, 0, none⟩ (.slice Aa psa.length ca))) ((((W5).setCell ⟨w.heap.size + 1 + 1, 0, none⟩ (.slice Aa psa.length ca))).setCell ⟨w.heap.size + 1 + 1, 1, none⟩ (.slice Ab qsa.length cb)) := Kw.store (c := (.slice none 0 0)) r0 rfl trivial _
 replace a := a.stored r0 (by decide) KW
 replace b := b.stored r0 (by decide) KW
 replace b0 := b0.fr (w.heap.size + 1 + 1) 1 (.slice Ab qsa.length cb)
 replace b1 := b1.fr (w.heap.size + 1 + 1) 1 (.slice Ab qsa.length cb)
 replace r0 : Bx 84 ((((W5).setCell ⟨w.heap.size + 1 + 1, 0, none⟩ (.slice Aa psa.length ca))).setCell ⟨w.heap.size + 1 + 1, 1, none⟩ (.slice Ab qsa.length cb)) (w.heap.size + 1 + 1) [.slice Aa psa.length ca, .slice Ab qsa.length cb] := r0.set 1 (.slice Ab qsa.length cb)
 replace UP := UP.setCell (p := ⟨w.heap.size + 1 + 1, 1, none⟩) (by dsimp only; omega) (.slice Ab qsa.length cb)
 clear KW
 generalize ((((W5).setCell ⟨w.heap.size + 1 + 1, 0, none⟩ (.slice Aa psa.length ca))).setCell ⟨w.heap.size + 1 + 1, 1, none⟩ (.slice Ab qsa.length cb)) = W6 at *
 clear b0_0 b0_1 b1_0 b1_1 r0_0 r0_1
 obtain ⟨b0_0, b0_1⟩ := b0.c2
 obtain ⟨b1_0, b1_1⟩ := b1.c2
 obtain ⟨r0_0, r0_1⟩ := r0.c2
 exact bodyPost_ret (run_res_cell_tmp rfl rfl agg_fun size_fun r0 rfl) rfl ⟨_, _, _, _, rfl, a, b, caa, lpa, lea, UP⟩
end Go.Proofs.YtmmcffceeahemaaGreat
