/-
  The walk of PolyDivides.
-/
import Derived.Test.YtmmcffceeahemaaGreatRefPoly7
import Derived.Test.YtmmcffceeahemaaGreatPolyWorks
set_option linter.unusedVariables false
set_option linter.unusedSimpArgs false
namespace Pq
theorem dq_nm (p q : List Rat) : dq (nm p) (nm q) = dq p q := by unfold dq; rw [nm_nm, nm_nm]
theorem dr_nm (p q : List Rat) : dr (nm p) (nm q) = dr p q := by unfold dr; rw [nm_nm, nm_nm]
end Pq
namespace Go.Proofs.YtmmcffceeahemaaGreat
open Go.RowKit

theorem ref_long_7_2 {v : Value} {rs : List Raw} {w : World} (h : RSq w v rs) : Calls Tryz.prog 19 #[v, .int .i64 7, .int .i64 2] w (RetLong11 rs 7 2 w) := ref_long11r 7 2 h (by omega) (by omega)
def RetDT (K : Nat) (Q R : List Rat) (t : Bool) (w : World) (e : Ending) (w' : World) : Prop := ∃ V U, e = .returned (.tuple #[V, U, .bool t]) ∧ PRow K w w' V Q ∧ PRow K w w' U R ∧ Up w w'
theorem pdiv_as {v u : Value} {ps qs Q R : List Rat} {ka kb j k K : Nat} {t : Bool} {w : World} (h : FSq ka w v ps) (h2 : FSq kb w u qs) (hl : ps.length ≤ 10000) (hl2 : qs.length ≤ 10000) (LP : Pq.Lp ps j) (LQ : Pq.Lp qs k) (hK : j + k + (ps.length + 1) * (k + 1) ≤ K) (hka : ka ≤ 4000000) (hkb : kb ≤ 4000000) (hK4 : K ≤ 4000000) (HQ : Hid (Pq.dq ps qs = Q)) (HR : Hid (Pq.dr ps qs = R)) (HT : Hid ((!decide (Pq.nm qs = [])) = t)) :
 Calls Tryz.prog 43 #[v, u] w (RetDT (K + 2) Q R t w) := by
 rw [← HQ.out, ← HR.out, ← HT.out]
 exact poly_div h h2 hl hl2 LP LQ hK hka hkb hK4
theorem rdiv_as {v u : Value} {a b Q R : List Rat} {ka kb j k K : Nat} {w : World} (h : QSq ka w v a) (h2 : QSq kb w u b) (ta : Pq.Tr a) (tb : Pq.Tr b) (hne : b ≠ []) (hl : a.length ≤ 299) (hl2 : b.length ≤ 299) (hka : ka ≤ 900000) (hkb : kb ≤ 900000) (LA : Pq.Lp a j) (LB : Pq.Lp b k) (hK : j + k + (a.length + 1) * (k + 1) ≤ K) (hKK : K + k + k + 10 ≤ 900000) (hj : ka ≤ K) (HQ : Hid (Pq.dq a b = Q)) (HR : Hid (Pq.dr a b = R)) :
 Calls Tryz.prog 48 #[v, u] w (RetDR K Q R w) := by
 rw [← HQ.out, ← HR.out]
 exact ref_div14 h h2 ta tb hne hl hl2 hka hkb LA LB hK hKK hj
set_option maxRecDepth 100000 in
set_option maxHeartbeats 12800000 in
theorem polyDivides_walk {v u : Value} {rs ts : List Raw} {w : World} (h : RSq w v rs) (h' : RSq w u ts) :
 Calls Tryz.prog 5 #[v, u] w fun e w' => e = .returned (.bool true) ∧ Up w w' := by
 obtain ⟨A1, c1, rfl⟩ := h.form
 obtain ⟨A2, c2, rfl⟩ := h'.form
 have UP : Up w w := Up.refl w
 have UP := Up.refl w
 go_enter Tryz.func5, Tryz.ntmps5
 go_wp2_with fail
 ((with_reducible refine (ref_long_7_2 h).mono ?_))
 rintro e W1 ⟨t1, rfl, ht1, u1⟩
 replace h := h.up u1
 replace h' := h'.up u1
 replace UP := UP.trans u1
 clear u1
 cases t1
 rotate_left
 · skip
   go_wp2_with fail
   ((with_reducible refine (works14 _).mono ?_))
   rintro e W2 ⟨rfl, u2⟩
   replace h := h.up u2
   replace h' := h'.up u2
   replace UP := UP.trans u2
   clear u2
   go_wp2
   go_ret
   exact ⟨rfl, UP⟩
 have g1 := Lib.hid (ht1.out rfl)
 clear ht1
 go_wp2_with fail
 ((with_reducible refine (ref_long_7_2 h').mono ?_))
 rintro e W2 ⟨t2, rfl, ht2, u2⟩
 replace h := h.up u2
 replace h' := h'.up u2
 replace UP := UP.trans u2
 clear u2
 cases t2
 rotate_left
 · skip
   go_wp2_with fail
   ((with_reducible refine (works14 _).mono ?_))
   rintro e W3 ⟨rfl, u3⟩
   replace h := h.up u3
   replace h' := h'.up u3
   replace UP := UP.trans u3
   clear u3
   go_wp2
   go_ret
   exact ⟨rfl, UP⟩
 have g2 := Lib.hid (ht2.out rfl)
 clear ht2
 have fx := h.fs g1.out.2 (by omega)
 have fy := h'.fs g2.out.2 (by omega)
 have e1 : (rs.map Raw.val).length = rs.length := List.length_map _
 have e2 : (ts.map Raw.val).length = ts.length := List.length_map _
 have lp : (rs.map Raw.val).length ≤ 7 := by rw [e1]; exact g1.out.1
 have lq : (ts.map Raw.val).length ≤ 7 := by rw [e2]; exact g2.out.1
 generalize rs.map Raw.val = p at *
 generalize ts.map Raw.val = q at *
 rw [← e1] at fx ⊢
 rw [← e2] at fy ⊢
 clear h h'
 clear g1 g2 e1 e2
 have LPP := Lib.hid ((Pq.Lp.few fx.lq).mono (k := 15) (by omega))
 have LPQ := Lib.hid ((Pq.Lp.few fy.lq).mono (k := 15) (by omega))
 obtain ⟨M, HM⟩ : ∃ r, Hid (Pq.nm p = r) := ⟨_, Lib.hid rfl⟩
 obtain ⟨N, HN⟩ : ∃ r, Hid (Pq.nm q = r) := ⟨_, Lib.hid rfl⟩
 have EM : Hid (∀ x, Pq.E M x = Pq.E p x) := Lib.hid (fun x => by rw [← HM.out, Pq.E_nm])
 have EN : Hid (∀ x, Pq.E N x = Pq.E q x) := Lib.hid (fun x => by rw [← HN.out, Pq.E_nm])
 have lM : M.length ≤ 7 := by rw [← HM.out]; exact Nat.le_trans (Pq.nm_len _) lp
 have lN : N.length ≤ 7 := by rw [← HN.out]; exact Nat.le_trans (Pq.nm_len _) lq
 have TM : Hid (Pq.Tr M) := Lib.hid (by rw [← HM.out]; exact Pq.tr_nm _)
 have TN : Hid (Pq.Tr N) := Lib.hid (by rw [← HN.out]; exact Pq.tr_nm _)
 have LPM : Hid (Pq.Lp M 15) := Lib.hid (by rw [← HM.out]; exact LPP.out.nm)
 have LPN : Hid (Pq.Lp N 15) := Lib.hid (by rw [← HN.out]; exact LPQ.out.nm)
 obtain ⟨D1, HD1⟩ : ∃ r, Hid (Pq.nm (Pq.df p) = r) := ⟨_, Lib.hid rfl⟩
 have HD1' : Hid (Pq.nm (Pq.df M) = D1) := Lib.hid (by rw [← HD1.out, ← HM.out]; exact Pq.nm_ext fun x => by rw [Pq.E_df, Pq.E_df, Pq.D_nm])
 have LD1 : Hid (∀ x ∈ D1, Wd.Lq x 16) := Lib.hid (by rw [← HD1.out]; exact (Lp.df LPP.out (by omega)).nm.lq)
 have lD1 : D1.length ≤ 1000000 := by rw [← HD1.out]; exact Nat.le_trans (Pq.nm_len _) (by rw [Pq.df_len]; omega)
 obtain ⟨Q1, HQ1⟩ : ∃ r, Hid (Pq.dq p q = r) := ⟨_, Lib.hid rfl⟩
 obtain ⟨R1, HR1⟩ : ∃ r, Hid (Pq.dr p q = r) := ⟨_, Lib.hid rfl⟩
 obtain ⟨tb, HTB⟩ : ∃ r, Hid ((!decide (Pq.nm q = [])) = r) := ⟨_, Lib.hid rfl⟩
 have HQ1' : Hid (Pq.dq M N = Q1) := Lib.hid (by rw [← HM.out, ← HN.out, Pq.dq_nm]; exact HQ1.out)
 have HR1' : Hid (Pq.dr M N = R1) := Lib.hid (by rw [← HM.out, ← HN.out, Pq.dr_nm]; exact HR1.out)
 have lQ1 : Q1.length ≤ 1000000 := by rw [← HQ1.out]; exact Nat.le_trans (Pq.dq_len _ _) (by omega)
 have lR1 : R1.length ≤ 1000000 := by rw [← HR1.out]; exact Nat.le_trans (Pq.dr_len _ _) (by omega)
 have HG1 : Hid (∀ n, (∀ i, i < n → (Pq.gst p q i).2 ≠ []) → Pq.Lp (Pq.gst p q n).1 224 ∧ Pq.Lp (Pq.gst p q n).2 224) := Lib.hid (Pq.gst_small LPP.out LPQ.out lp lq (by omega) (by omega) (by omega))
 have HG2 : Hid (∀ n, (∀ i, i < n → (Pq.gst M N i).2 ≠ []) → Pq.Lp (Pq.gst M N n).1 224 ∧ Pq.Lp (Pq.gst M N n).2 224) := Lib.hid (Pq.gst_small LPM.out LPN.out lM lN (by omega) (by omega) (by omega))
 go_wp2_with fail
 ((with_reducible refine (ref_norms11 fx (by omega) (by omega)).mono ?_))
 rintro e W3 ⟨V3, rfl, n1, u3⟩
 obtain ⟨An1, cn1, rfl⟩ := n1.form
 replace fx := fx.up u3
 replace fy := fy.up u3
 replace UP := UP.trans u3
 clear u3
 go_wp2_with fail
 ((with_reducible refine (rnorm_as n1.q (by omega) (by omega) HM).mono ?_))
 rintro e W4 ⟨V4, rfl, m1, u4⟩
 obtain ⟨Am1, cm1, rfl⟩ := m1.form
 replace fx := fx.up u4
 replace fy := fy.up u4
 replace n1 := n1.up u4
 replace UP := UP.trans u4
 clear u4
 clear n1
 go_wp2_with fail
 ((with_reducible refine (ref_norms11 fy (by omega) (by omega)).mono ?_))
 rintro e W5 ⟨V5, rfl, n2, u5⟩
 obtain ⟨An2, cn2, rfl⟩ := n2.form
 replace fx := fx.up u5
 replace fy := fy.up u5
 replace m1 := m1.up u5
 replace UP := UP.trans u5
 clear u5
 go_wp2_with fail
 ((with_reducible refine (rnorm_as n2.q (by omega) (by omega) HN).mono ?_))
 rintro e W6 ⟨V6, rfl, m2, u6⟩
 obtain ⟨Am2, cm2, rfl⟩ := m2.form
 replace fx := fx.up u6
 replace fy := fy.up u6
 replace m1 := m1.up u6
 replace n2 := n2.up u6
 replace UP := UP.trans u6
 clear u6
 clear n2
 go_wp2_with fail
 ((with_reducible refine (law_to11f fx (by omega)).mono ?_))
 rintro e W7 ⟨V7, rfl, x, u7⟩
 obtain ⟨Ax, cx, rfl⟩ := x.form
 replace fx := fx.up u7
 replace fy := fy.up u7
 replace m1 := m1.up u7
 replace m2 := m2.up u7
 replace UP := UP.trans u7
 clear u7
 go_wp2_with fail
 ((with_reducible refine (law_to11f fy (by omega)).mono ?_))
 rintro e W8 ⟨V8, rfl, y, u8⟩
 obtain ⟨Ay, cy, rfl⟩ := y.form
 replace fx := fx.up u8
 replace fy := fy.up u8
 replace m1 := m1.up u8
 replace m2 := m2.up u8
 replace x := x.up u8
 replace UP := UP.trans u8
 clear u8
 clear fx fy
 go_wp2_with fail
 ((with_reducible refine (pdiv_as (K := 158) x y (by omega) (by omega) LPP.out LPQ.out (by omega) (by omega) (by omega) (by omega) HQ1 HR1 HTB).mono ?_))
 rintro e W9 ⟨V9, R9, rfl, d, r, u9⟩
 obtain ⟨Ad, cd, rfl⟩ := d.form
 obtain ⟨Ar, cr, rfl⟩ := r.form
 replace m1 := m1.up u9
 replace m2 := m2.up u9
 replace x := x.up u9
 replace y := y.up u9
 replace UP := UP.trans u9
 clear u9
 go_wp2_with fail
 ((with_reducible refine (pdiff_as x (by omega) (by omega) HD1 LD1).mono ?_))
 rintro e W10 ⟨V10, rfl, a1, u10⟩
 obtain ⟨Aa1, ca1, rfl⟩ := a1.form
 replace m1 := m1.up u10
 replace m2 := m2.up u10
 replace x := x.up u10
 replace y := y.up u10
 replace d := d.up u10
 replace r := r.up u10
 replace UP := UP.trans u10
 clear u10
 go_wp2_with fail
 ((with_reducible refine (rdiff_as m1.q (by omega) (by omega) HD1' LD1).mono ?_))
 rintro e W11 ⟨V11, rfl, a2, u11⟩
 obtain ⟨Aa2, ca2, rfl⟩ := a2.form
 replace m1 := m1.up u11
 replace m2 := m2.up u11
 replace x := x.up u11
 replace y := y.up u11
 replace d := d.up u11
 replace r := r.up u11
 replace a1 := a1.up u11
 replace UP := UP.trans u11
 clear u11
 go_wp2_with fail
 ((with_reducible refine (is_yes a1.qs a2.q lD1 (by omega)).mono ?_))
 rintro e W12 ⟨rfl, u12⟩
 replace m1 := m1.up u12
 replace m2 := m2.up u12
 replace x := x.up u12
 replace y := y.up u12
 replace d := d.up u12
 replace r := r.up u12
 replace a1 := a1.up u12
 replace a2 := a2.up u12
 replace UP := UP.trans u12
 clear u12
 clear a1 a2
 go_wp2_with fail
 ((with_reducible refine (poly_gcd (m := 7) x y lp lq (by omega) LPP.out LPQ.out HG1 (by omega) (by omega) (by omega)).mono ?_))
 rintro e W13 ⟨V13, gz, rfl, z, iz, lz, nz, u13⟩
 obtain ⟨Az, cz, rfl⟩ := z.form
 replace iz := Lib.hid iz
 replace lz := Lib.hid lz
 replace m1 := m1.up u13
 replace m2 := m2.up u13
 replace x := x.up u13
 replace y := y.up u13
 replace d := d.up u13
 replace r := r.up u13
 replace UP := UP.trans u13
 clear u13
 go_wp2_with fail
 ((with_reducible refine (ref_gcd14 (m := 7) (D := 2024) (K := 224) (Z := 16416) m1.q m2.q lM lN (by omega) LPM.out LPN.out (by omega) HG2 (by omega) (by omega) (by omega) (by omega) (by omega)).mono ?_))
 rintro e W14 ⟨V14, go, rfl, o, io, u14⟩
 obtain ⟨Ao, co, rfl⟩ := o.form
 replace io := Lib.hid io
 replace m1 := m1.up u14
 replace m2 := m2.up u14
 replace x := x.up u14
 replace y := y.up u14
 replace d := d.up u14
 replace r := r.up u14
 replace z := z.up u14
 replace UP := UP.trans u14
 clear u14
 obtain rfl : gz = go := Pq.IsGcd.unique iz.out (io.out.ext EM.out EN.out)
 go_wp2_with fail
 ((with_reducible refine (is_yes z.qs o.q (by omega) (by omega)).mono ?_))
 rintro e W15 ⟨rfl, u15⟩
 replace m1 := m1.up u15
 replace m2 := m2.up u15
 replace x := x.up u15
 replace y := y.up u15
 replace d := d.up u15
 replace r := r.up u15
 replace z := z.up u15
 replace o := o.up u15
 replace UP := UP.trans u15
 clear u15
 clear z o
 by_cases hN : N = []
 · have hq : Pq.nm q = [] := HN.out.trans hN
   have hl0 : N.length = 0 := by rw [hN]; rfl
   obtain rfl : tb = false := by rw [← HTB.out, hq]; rfl
   obtain rfl : Q1 = [] := by rw [← HQ1.out]; unfold Pq.dq; rw [if_pos hq]
   obtain rfl : R1 = [] := by rw [← HR1.out]; unfold Pq.dr; rw [if_pos hq]
   have hx0 : ((N.length : Int) == 0) = true := by simp [hl0]
   clear hq hN
   go_wp2_with fail
   ((with_reducible refine (works14 _).mono ?_))
   rintro e W16 ⟨rfl, u16⟩
   replace m1 := m1.up u16
   replace m2 := m2.up u16
   replace x := x.up u16
   replace y := y.up u16
   replace d := d.up u16
   replace r := r.up u16
   replace UP := UP.trans u16
   clear u16
   go_wp2
   go_ret
   exact ⟨rfl, UP⟩
 · skip
   have hq : Pq.nm q ≠ [] := fun e => hN (HN.out.symm.trans e)
   obtain rfl : tb = true := by rw [← HTB.out, decide_eq_false hq]; rfl
   have hx0 : ((N.length : Int) == 0) = false := by simp [hN]
   clear hq
   go_wp2_with fail
   ((with_reducible refine (rdiv_as (K := 160) m1.q m2.q TM.out TN.out hN (by omega) (by omega) (by omega) (by omega) LPM.out LPN.out (by omega) (by omega) (by omega) HQ1' HR1').mono ?_))
   rintro e W16 ⟨V16, R16, rfl, d2, r2, u16⟩
   obtain ⟨Ad2, cd2, rfl⟩ := d2.form
   obtain ⟨Ar2, cr2, rfl⟩ := r2.form
   replace m1 := m1.up u16
   replace m2 := m2.up u16
   replace x := x.up u16
   replace y := y.up u16
   replace d := d.up u16
   replace r := r.up u16
   replace UP := UP.trans u16
   clear u16
   go_wp2_with fail
   ((with_reducible refine (is_yes d.qs d2.q lQ1 (by omega)).mono ?_))
   rintro e W17 ⟨rfl, u17⟩
   replace m1 := m1.up u17
   replace m2 := m2.up u17
   replace x := x.up u17
   replace y := y.up u17
   replace d := d.up u17
   replace r := r.up u17
   replace d2 := d2.up u17
   replace r2 := r2.up u17
   replace UP := UP.trans u17
   clear u17
   go_wp2_with fail
   ((with_reducible refine (is_yes r.qs r2.q lR1 (by omega)).mono ?_))
   rintro e W18 ⟨rfl, u18⟩
   replace m1 := m1.up u18
   replace m2 := m2.up u18
   replace x := x.up u18
   replace y := y.up u18
   replace d := d.up u18
   replace r := r.up u18
   replace d2 := d2.up u18
   replace r2 := r2.up u18
   replace UP := UP.trans u18
   clear u18
   go_wp2_with fail
   ((with_reducible refine (works14 _).mono ?_))
   rintro e W19 ⟨rfl, u19⟩
   replace m1 := m1.up u19
   replace m2 := m2.up u19
   replace x := x.up u19
   replace y := y.up u19
   replace d := d.up u19
   replace r := r.up u19
   replace d2 := d2.up u19
   replace r2 := r2.up u19
   replace UP := UP.trans u19
   clear u19
   go_wp2
   go_ret
   exact ⟨rfl, UP⟩
end Go.Proofs.YtmmcffceeahemaaGreat
