/-
  Layer 14: sums and differences.
-/
import Derived.Test.YtmmcffceeahemaaGreatPoly6
import Derived.Test.YtmmcffceeahemaaGreatPoly2
import Derived.Test.YtmmcffceeahemaaGreatPolyPlain
set_option linter.unusedVariables false
set_option linter.unusedSimpArgs false
namespace Go.Proofs.YtmmcffceeahemaaGreat
open Go.RowKit

/-- A row of fractions of at most so many words that can be read. -/
def FSq (k : Nat) (w : World) (v : Value) (qs : List Rat) : Prop := Sq (Frk k) w v qs
theorem FSq.up {k : Nat} {w w' : World} {v : Value} {qs : List Rat} (h : FSq k w v qs) (hu : Up w w') : FSq k w' v qs := Sq.up (kp_fr k) h hu
theorem FSq.form {k : Nat} {w : World} {v : Value} {qs : List Rat} (h : FSq k w v qs) : ∃ A c, v = .slice A qs.length c := Sq.form h
theorem FSq.sq {k : Nat} {w : World} {v : Value} {qs : List Rat} (h : FSq k w v qs) : Sq (Frk k) w v qs := h
theorem FSq.mono {j k : Nat} {w : World} {v : Value} {qs : List Rat} (h : FSq j w v qs) (hk : j ≤ k) : FSq k w v qs := Sq.imp h fun hx => Fr.mono hx hk
theorem FSq.lq {k : Nat} {w : World} {v : Value} {qs : List Rat} (h : FSq k w v qs) : ∀ q ∈ qs, Wd.Lq q k := sq_lq h
theorem PRow.fs {k : Nat} {w0 w : World} {v : Value} {qs : List Rat} (h : PRow k w0 w v qs) : FSq k w v qs := h.fr
/-- The bound may be told anew: right fractions are as long as their values are. -/
theorem PRow.re {j k : Nat} {w0 w : World} {v : Value} {qs : List Rat} (h : PRow j w0 w v qs) (hq : ∀ q ∈ qs, Wd.Lq q k) : PRow k w0 w v qs := by
 obtain ⟨xs, ha, hr⟩ := h
 refine ⟨xs, ⟨ha.1, fun i x q h1 h2 => ⟨(ha.2 i x q h1 h2).1, hq q (List.mem_of_getElem? h2)⟩⟩, hr⟩
def RetF (k : Nat) (qs : List Rat) (w : World) (e : Ending) (w' : World) : Prop := ∃ v, e = .returned v ∧ FSq k w' v qs ∧ Up w w'
theorem poly_long2 {v : Value} {qs : List Rat} {ka n : Nat} {w : World} {N : Int} (h : FSq ka w v qs) (hl : qs.length ≤ 100000000) (hN : N = (n : Int)) (hn : n ≤ 100000000) (hka : 2 ≤ ka) : Calls Tryz.prog 113 #[v, .int .i64 N] w (RetF ka (Pq.pad qs n n) w) := by
 subst hN
 refine (poly_long h hl hn hka).mono ?_
 rintro e w' ⟨V, h1, h2, h3⟩
 exact ⟨V, h1, h2.sq, h3⟩
set_option maxRecDepth 100000 in
set_option maxHeartbeats 3200000 in
theorem poly_add {v u : Value} {ps qs : List Rat} {ka kb : Nat} {w : World} (h : FSq ka w v ps) (h2 : FSq kb w u qs) (hl : ps.length ≤ 10000) (hl2 : qs.length ≤ 10000) (ha : 2 ≤ ka) (hb : 2 ≤ kb) (hka : ka ≤ 4000000) (hkb : kb ≤ 4000000) :
 Calls Tryz.prog 35 #[v, u] w (RetP (ka + kb + 3) (Pq.nm (Pq.add ps qs)) w) := by
 obtain ⟨A, cp, rfl⟩ := h.form
 obtain ⟨B, cq, rfl⟩ := h2.form
 obtain ⟨n, HN⟩ : ∃ n : Nat, Hid (n = max ps.length qs.length) := ⟨_, Lib.hid rfl⟩
 have hn : n ≤ 10000 := by have := HN.out; omega
 have hp : ps.length ≤ n := by have := HN.out; omega
 have hq : qs.length ≤ n := by have := HN.out; omega
 have HM : Hid ((n : Int) = if (qs.length : Int) > (ps.length : Int) then (qs.length : Int) else (ps.length : Int)) := Lib.hid (by rw [HN.out]; split <;> omega)
 have HE : Hid (Pq.nm (Pq.zt (Pq.pad ps n n) (Pq.pad qs n n) (Pq.pad ps n n).length) = Pq.nm (Pq.add ps qs)) := Lib.hid (Pq.nm_zt (by rw [Pq.pad_len, Pq.pad_len]) (fun x => Pq.E_rpad hp x) (fun x => Pq.E_rpad hq x))
 have L1 := Lib.hid (Pq.pad_len ps n n)
 have L2 := Lib.hid (Pq.pad_len qs n n)
 have HZ := Lib.hid (Pq.zt_len (Pq.pad ps n n) (Pq.pad qs n n) (Pq.pad ps n n).length)
 have UP : Up w w := Up.refl w
 go_enter Tryz.func35, Tryz.ntmps35
 go_wp2_with (with_reducible show wpList _ _ _ _ _ _; refine wl_max (o := ⟨some 12, _, _, _, _, _⟩) rfl _ _ _ _ rfl rfl rfl HM.out ?_)
 ((with_reducible refine (poly_long2 h (by omega) rfl (by omega) ha).mono ?_))
 rintro e W1 ⟨V1, rfl, p1, u1⟩
 replace h := h.up u1
 replace h2 := h2.up u1
 replace UP := UP.trans u1
 clear u1
 go_wp2_with fail
 ((with_reducible refine (poly_long2 h2 (by omega) rfl (by omega) hb).mono ?_))
 rintro e W2 ⟨V2, rfl, p2, u2⟩
 replace h := h.up u2
 replace h2 := h2.up u2
 replace p1 := p1.up u2
 replace UP := UP.trans u2
 clear u2
 generalize Pq.pad ps n n = P1 at *
 generalize Pq.pad qs n n = P2 at *
 obtain ⟨A1, c1, rfl⟩ := p1.form
 obtain ⟨A2, c2, rfl⟩ := p2.form
 go_wp2_with fail
 have sl := Bx.new 49 W2 [.slice A1 P1.length c1, .slice A2 P2.length c2]
 replace h := h.up ((Up.refl W2).alloc (.cells #[.slice A1 P1.length c1, .slice A2 P2.length c2] 49))
 replace h2 := h2.up ((Up.refl W2).alloc (.cells #[.slice A1 P1.length c1, .slice A2 P2.length c2] 49))
 replace p1 := p1.up ((Up.refl W2).alloc (.cells #[.slice A1 P1.length c1, .slice A2 P2.length c2] 49))
 replace p2 := p2.up ((Up.refl W2).alloc (.cells #[.slice A1 P1.length c1, .slice A2 P2.length c2] 49))
 replace UP := UP.trans ((Up.refl W2).alloc (.cells #[.slice A1 P1.length c1, .slice A2 P2.length c2] 49))
 generalize (W2.alloc (.cells #[.slice A1 P1.length c1, .slice A2 P2.length c2] 49)) = W3 at *
 obtain ⟨sl_0, sl_1⟩ := sl.c2
 ((with_reducible refine (row_add sl p1.sq p2.sq (L2.out.trans L1.out.symm) (by rw [L1.out]; omega) (by omega) (by omega)).mono ?_))
 rintro e W4 ⟨V4, rfl, r, u4⟩
 replace h := h.up u4
 replace h2 := h2.up u4
 replace p1 := p1.up u4
 replace p2 := p2.up u4
 replace sl := sl.up u4
 replace UP := UP.trans u4
 clear sl_0 sl_1
 obtain ⟨sl_0, sl_1⟩ := sl.c2
 clear u4
 have RF := r.fs
 have hz : (Pq.zt P1 P2 P1.length).length ≤ 100000000 := by rw [HZ.out, L1.out]; omega
 obtain ⟨A3, c3, rfl⟩ := r.form
 clear r
 have UQ := UP
 go_wp2_with fail
 ((with_reducible refine (poly_norm RF.sq hz (by omega)).mono ?_))
 rintro e W5 ⟨V5, rfl, r2, u5⟩
 replace h := h.up u5
 replace h2 := h2.up u5
 replace p1 := p1.up u5
 replace p2 := p2.up u5
 replace RF := RF.up u5
 replace sl := sl.up u5
 replace UP := UP.trans u5
 clear sl_0 sl_1
 obtain ⟨sl_0, sl_1⟩ := sl.c2
 clear u5
 rw [HE.out] at r2
 go_wp2
 go_ret
 exact ⟨_, rfl, r2.weaken UQ, UP⟩

theorem lq_scn {qs : List Rat} {k : Nat} (h : ∀ q ∈ qs, Wd.Lq q k) : ∀ q ∈ Pq.nm (Pq.sc (-1) qs), Wd.Lq q k := by
 intro q hq
 obtain ⟨y, hy, rfl⟩ := List.mem_map.1 (Pq.nm_mem hq)
 rw [Rat.neg_mul, Rat.one_mul]
 exact (h y hy).neg
theorem RetP.re {j k : Nat} {qs : List Rat} {w : World} {e : Ending} {w' : World} (h : RetP j qs w e w') (hq : ∀ q ∈ qs, Wd.Lq q k) : RetP k qs w e w' := by
 obtain ⟨V, h1, h2, h3⟩ := h
 exact ⟨V, h1, h2.re hq, h3⟩
set_option maxRecDepth 100000 in
set_option maxHeartbeats 3200000 in
theorem poly_sub {v u : Value} {ps qs : List Rat} {ka kb : Nat} {w : World} (h : FSq ka w v ps) (h2 : FSq kb w u qs) (hl : ps.length ≤ 10000) (hl2 : qs.length ≤ 10000) (ha : 2 ≤ ka) (hb : 2 ≤ kb) (hka : ka ≤ 4000000) (hkb : kb ≤ 4000000) :
 Calls Tryz.prog 37 #[v, u] w (RetP (ka + kb + 3) (Pq.nm (Pq.sub ps qs)) w) := by
 have HS := Lib.hid (lq_scn h2.lq)
 have HN := Lib.hid (Pq.nm_sub ps qs)
 have HL : Hid ((Pq.nm (Pq.sc (-1) qs)).length ≤ 10000) := Lib.hid (Nat.le_trans (Pq.nm_len _) (by rw [Pq.sc_len]; exact hl2))
 obtain ⟨A, cp, rfl⟩ := h.form
 obtain ⟨B, cq, rfl⟩ := h2.form
 have UP : Up w w := Up.refl w
 go_enter Tryz.func37, Tryz.ntmps37
 go_wp2_with fail
 ((with_reducible refine (frac_of (n := -1) (by omega) _).mono ?_))
 rintro e W1 ⟨V1, rfl, o, u1⟩
 replace h := h.up u1
 replace h2 := h2.up u1
 replace UP := UP.trans u1
 clear u1
 have HF : Hid (Fr W1 V1 ((-1 : Int) : Rat) 2) := Lib.hid (o.fr (lq_int (by omega)))
 obtain ⟨P0, HP0⟩ : ∃ P, Hid ((((-1 : Int) : Int) : Rat) = P) := ⟨_, Lib.hid rfl⟩
 rw [HP0.out] at o HF
 obtain ⟨Xo, Yo, rfl, o, od⟩ := o
 obtain ⟨Ao, no, co, rfl⟩ := o.shape
 obtain ⟨Aod, nod, cod, rfl⟩ := od.shape
 go_wp2_with fail
 ((with_reducible refine (poly_scale HF.out h2.sq (by omega) (by omega) (by omega)).mono ?_))
 rintro e W2 ⟨V2, rfl, r, u2⟩
 replace h := h.up u2
 replace h2 := h2.up u2
 replace o := o.up u2
 replace od := od.up u2
 replace UP := UP.trans u2
 clear u2
 rw [← HP0.out, show (((-1 : Int)) : Rat) = -1 from rfl] at r
 replace r := r.re HS.out
 have rf := r.fs
 clear r
 generalize Pq.nm (Pq.sc (-1) qs) = ns at *
 obtain ⟨A3, c3, rfl⟩ := rf.form
 have UQ := UP
 go_wp2_with fail
 ((with_reducible refine (poly_add h rf hl HL.out ha hb hka hkb).mono ?_))
 rintro e W3 ⟨V3, rfl, s, u3⟩
 replace h := h.up u3
 replace h2 := h2.up u3
 replace o := o.up u3
 replace od := od.up u3
 replace rf := rf.up u3
 replace UP := UP.trans u3
 clear u3
 rw [HN.out] at s
 go_wp2
 go_ret
 exact ⟨_, rfl, s.weaken UQ, UP⟩
end Go.Proofs.YtmmcffceeahemaaGreat
