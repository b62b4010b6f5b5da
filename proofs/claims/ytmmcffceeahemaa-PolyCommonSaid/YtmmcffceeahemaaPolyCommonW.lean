/-
  The walk of PolyCommon.
-/
import Derived.Test.YtmmcffceeahemaaPolyValuesW
set_option linter.unusedVariables false
set_option linter.unusedSimpArgs false
namespace Pq
theorem nm_mul_len (p q : List Rat) : (nm (mul p q)).length ≤ p.length + q.length - 1 := by
  by_cases hp : p = []
  · subst hp; simp [mul, nm]
  by_cases hq : q = []
  · subst hq
    rw [nm_nil (p := mul p []) (fun x => by rw [E_mul, E_nil, Rat.mul_zero])]
    simp
  have := mul_len p q hp hq
  have := nm_len (mul p q)
  omega
theorem gst_nil_bound {x : List Rat} {K : Nat} (h : Lp x K) (n : Nat) (hn : ∀ i, i < n → (gst x [] i).2 ≠ []) : Lp (gst x [] n).1 K ∧ Lp (gst x [] n).2 K := by
  cases n with
  | zero => exact ⟨h.nm.mo (tr_nm x), Lp.nil.mono h.one_le⟩
  | succ n => exact absurd rfl (hn 0 (by omega))
theorem len_zero {p : List Rat} (h : p = []) : ((p.length : Int) - 1) = -1 := by rw [h]; rfl
theorem back (p q : List Rat) (h : nm q ≠ []) : nm (nm (add (nm (mul (dq p q) q)) (dr p q))) = nm p := nm_ext fun x => by
  rw [E_nm, E_add, E_nm, E_mul]
  exact ((dqr_div h).1 x).symm
theorem dq_len (p q : List Rat) : (dq p q).length ≤ p.length + 1 := by
  unfold dq
  split
  · simp
  · split
    · simp
    · refine Nat.le_trans (nm_len _) ?_
      have h1 : (qt (nm p) (nm q)).length = (nm p).length - (nm q).length + 1 := (dst_len _ _ _).2
      have := nm_len p
      omega
theorem dr_len (p q : List Rat) : (dr p q).length ≤ p.length := by
  unfold dr
  split
  · simp
  · split
    · exact nm_len p
    · refine Nat.le_trans (nm_len _) ?_
      have h1 : (rm (nm p) (nm q)).length = (nm p).length := (dst_len _ _ _).1
      have := nm_len p
      omega
theorem rest_len (p q : List Rat) (h : nm q ≠ []) : (nm (dr p q)).length < (nm q).length := (dqr_div h).2
end Pq
namespace Go.Proofs.Ytmmcffceeahemaa
open Go.RowKit

theorem fs_nil (k : Nat) (w : World) : FSq k w (.slice none 0 0) [] := Sq.nil _ _
theorem ref_long_5_1 {v : Value} {rs : List Raw} {w : World} (h : RSq w v rs) : Calls Try.prog 25 #[v, .int .i64 5, .int .i64 1] w (RetLong11 rs 5 1 w) := ref_long11r 5 1 h (by omega) (by omega)
theorem ref_long_4_1 {v : Value} {rs : List Raw} {w : World} (h : RSq w v rs) : Calls Try.prog 25 #[v, .int .i64 4, .int .i64 1] w (RetLong11 rs 4 1 w) := ref_long11r 4 1 h (by omega) (by omega)
set_option maxRecDepth 100000 in
set_option maxHeartbeats 12800000 in
theorem polyCommon_walk {v u x : Value} {rs ts ys : List Raw} {w : World} (h : RSq w v rs) (h' : RSq w u ts) (h'' : RSq w x ys) :
    Calls Try.prog 11 #[v, u, x] w fun e w' => e = .returned (.bool true) ∧ Up w w' := by
  obtain ⟨A1, c1, rfl⟩ := h.form
  obtain ⟨A2, c2, rfl⟩ := h'.form
  obtain ⟨A3, c3, rfl⟩ := h''.form
  have UP : Up w w := Up.refl w
  go_enter Try.func11, Try.ntmps11
  go_wp2_with fail
  ((with_reducible refine (ref_long_5_1 h).mono ?_))
  rintro e W1 ⟨t1, rfl, ht1, u1⟩
  replace h := h.up u1
  replace h' := h'.up u1
  replace h'' := h''.up u1
  replace UP := UP.trans u1
  clear u1
  cases t1
  rotate_left
  · skip
    go_wp2_with fail
    ((with_reducible refine (works14 _).mono ?_))
    rintro e W2 ⟨rfl, u2⟩
    replace h := h.up u2
    replace h' := h'.up u2
    replace h'' := h''.up u2
    replace UP := UP.trans u2
    clear u2
    go_wp2
    go_ret
    exact ⟨rfl, UP⟩
  obtain ⟨hr1, hr2⟩ := ht1.out rfl
  clear ht1
  go_wp2_with fail
  ((with_reducible refine (ref_long_5_1 h').mono ?_))
  rintro e W2 ⟨t2, rfl, ht2, u2⟩
  replace h := h.up u2
  replace h' := h'.up u2
  replace h'' := h''.up u2
  replace UP := UP.trans u2
  clear u2
  cases t2
  rotate_left
  · skip
    go_wp2_with fail
    ((with_reducible refine (works14 _).mono ?_))
    rintro e W3 ⟨rfl, u3⟩
    replace h := h.up u3
    replace h' := h'.up u3
    replace h'' := h''.up u3
    replace UP := UP.trans u3
    clear u3
    go_wp2
    go_ret
    exact ⟨rfl, UP⟩
  obtain ⟨hs1, hs2⟩ := ht2.out rfl
  clear ht2
  go_wp2_with fail
  ((with_reducible refine (ref_long_4_1 h'').mono ?_))
  rintro e W3 ⟨t3, rfl, ht3, u3⟩
  replace h := h.up u3
  replace h' := h'.up u3
  replace h'' := h''.up u3
  replace UP := UP.trans u3
  clear u3
  cases t3
  rotate_left
  · skip
    go_wp2_with fail
    ((with_reducible refine (works14 _).mono ?_))
    rintro e W4 ⟨rfl, u4⟩
    replace h := h.up u4
    replace h' := h'.up u4
    replace h'' := h''.up u4
    replace UP := UP.trans u4
    clear u4
    go_wp2
    go_ret
    exact ⟨rfl, UP⟩
  obtain ⟨hy1, hy2⟩ := ht3.out rfl
  clear ht3
  have fx := h.fs hr2 (by omega)
  have fy := h'.fs hs2 (by omega)
  have fz := h''.fs hy2 (by omega)
  have HLP : Hid ((rs.map Raw.val).length ≤ 5) := Lib.hid (by rw [List.length_map]; exact hr1)
  have HLQ : Hid ((ts.map Raw.val).length ≤ 5) := Lib.hid (by rw [List.length_map]; exact hs1)
  have HLZ : Hid ((ys.map Raw.val).length ≤ 4) := Lib.hid (by rw [List.length_map]; exact hy1)
  clear hr1 hr2 hs1 hs2 hy1 hy2
  clear h h' h''
  generalize rs.map Raw.val = ps at *
  generalize ts.map Raw.val = qs at *
  generalize ys.map Raw.val = zs at *
  have LP := Lib.hid ((Pq.Lp.few fx.lq).mono (k := 6) (by have := HLP.out; omega))
  have LQ := Lib.hid ((Pq.Lp.few fy.lq).mono (k := 6) (by have := HLQ.out; omega))
  have LZ := Lib.hid ((Pq.Lp.few fz.lq).mono (k := 5) (by have := HLZ.out; omega))
  have hp5 := HLP.out
  have hq5 := HLQ.out
  have hz4 := HLZ.out
  have HKG : Hid (∀ n, (∀ i, i < n → (Pq.gst ps qs i).2 ≠ []) → Pq.Lp (Pq.gst ps qs n).1 5103 ∧ Pq.Lp (Pq.gst ps qs n).2 5103) := Lib.hid (fun n hn => Pq.gst_bound (m := 5) LP.out LQ.out hp5 hq5 (by decide) n hn)
  go_wp2_with fail
  ((with_reducible refine (law_to11f fx (by omega)).mono ?_))
  rintro e W4 ⟨V4, rfl, x, u4⟩
  replace fx := fx.up u4
  replace fy := fy.up u4
  replace fz := fz.up u4
  replace UP := UP.trans u4
  clear u4
  go_wp2_with fail
  ((with_reducible refine (law_to11f fy (by omega)).mono ?_))
  rintro e W5 ⟨V5, rfl, y, u5⟩
  replace fx := fx.up u5
  replace fy := fy.up u5
  replace fz := fz.up u5
  replace x := x.up u5
  replace UP := UP.trans u5
  clear u5
  go_wp2_with fail
  ((with_reducible refine (law_to11f fz (by omega)).mono ?_))
  rintro e W6 ⟨V6, rfl, z, u6⟩
  replace fx := fx.up u6
  replace fy := fy.up u6
  replace fz := fz.up u6
  replace x := x.up u6
  replace y := y.up u6
  replace UP := UP.trans u6
  clear u6
  clear fx fy fz
  go_wp2_with fail
  ((with_reducible refine (poly_gcd x y hp5 hq5 (by omega) LP.out LQ.out HKG (by omega) (by omega) (by omega)).mono ?_))
  rintro e W7 ⟨V7, gg, rfl, g, ig, lg, ng, u7⟩
  replace x := x.up u7
  replace y := y.up u7
  replace z := z.up u7
  replace UP := UP.trans u7
  clear u7
  have hg5 : gg.length ≤ 5 := by omega
  have G := Lib.hid g.fs
  have HIG := Lib.hid ig
  have LG := Lib.hid lg
  clear ig lg ng
  clear g
  have GF := G.out
  clear G
  obtain ⟨P1, HP1⟩ : ∃ P, Hid (Pq.nm (Pq.mul ps zs) = P) := ⟨_, Lib.hid rfl⟩
  obtain ⟨P2, HP2⟩ : ∃ P, Hid (Pq.nm (Pq.mul qs zs) = P) := ⟨_, Lib.hid rfl⟩
  obtain ⟨P3, HP3⟩ : ∃ P, Hid (Pq.nm (Pq.mul gg zs) = P) := ⟨_, Lib.hid rfl⟩
  have LP1 : Hid (Pq.Lp P1 12) := Lib.hid (by rw [← HP1.out]; exact LP.out.mul LZ.out (by omega))
  have LP2 : Hid (Pq.Lp P2 12) := Lib.hid (by rw [← HP2.out]; exact LQ.out.mul LZ.out (by omega))
  have LP3 : Hid (Pq.Lp P3 5109) := Lib.hid (by rw [← HP3.out]; exact LG.out.mul LZ.out (by omega))
  have hl1 : P1.length ≤ 8 := by rw [← HP1.out]; exact Nat.le_trans (Pq.nm_mul_len _ _) (by omega)
  have hl2 : P2.length ≤ 8 := by rw [← HP2.out]; exact Nat.le_trans (Pq.nm_mul_len _ _) (by omega)
  have hl3 : P3.length ≤ 8 := by rw [← HP3.out]; exact Nat.le_trans (Pq.nm_mul_len _ _) (by omega)
  have HK1 : Hid (∀ n, (∀ i, i < n → (Pq.gst P1 P2 i).2 ≠ []) → Pq.Lp (Pq.gst P1 P2 n).1 255879 ∧ Pq.Lp (Pq.gst P1 P2 n).2 255879) := Lib.hid (fun n hn => Pq.gst_bound (m := 8) LP1.out LP2.out hl1 hl2 (by decide) n hn)
  have HK3 : Hid (∀ n, (∀ i, i < n → (Pq.gst P3 [] i).2 ≠ []) → Pq.Lp (Pq.gst P3 [] n).1 5109 ∧ Pq.Lp (Pq.gst P3 [] n).2 5109) := Lib.hid (fun n hn => Pq.gst_nil_bound LP3.out n hn)
  go_wp2_with fail
  by_cases h0 : Pq.nm ps = [] ∧ Pq.nm qs = []
  · have HD1 := Lib.hid (Pq.len_zero h0.1)
    have HD2 := Lib.hid (Pq.len_zero h0.2)
    have HD3 : Hid (((Pq.nm gg).length : Int) - 1 = -1) := Lib.hid (Pq.len_zero (by rw [HIG.out.nil h0.1 h0.2]; rfl))
    clear h0
    ((with_reducible refine (poly_degree x.sq (by omega) (by omega)).mono ?_))
    rintro e W8 ⟨rfl, u8⟩
    replace x := x.up u8
    replace y := y.up u8
    replace z := z.up u8
    replace GF := GF.up u8
    replace UP := UP.trans u8
    clear u8
    rw [HD1.out]
    go_wp2_with fail
    ((with_reducible refine (poly_degree y.sq (by omega) (by omega)).mono ?_))
    rintro e W9 ⟨rfl, u9⟩
    replace x := x.up u9
    replace y := y.up u9
    replace z := z.up u9
    replace GF := GF.up u9
    replace UP := UP.trans u9
    clear u9
    rw [HD2.out]
    go_wp2_with fail
    ((with_reducible refine (poly_degree GF.sq (by omega) (by omega)).mono ?_))
    rintro e W10 ⟨rfl, u10⟩
    replace x := x.up u10
    replace y := y.up u10
    replace z := z.up u10
    replace GF := GF.up u10
    replace UP := UP.trans u10
    clear u10
    rw [HD3.out]
    go_wp2_with fail
    ((with_reducible refine (works14 _).mono ?_))
    rintro e W11 ⟨rfl, u11⟩
    replace x := x.up u11
    replace y := y.up u11
    replace z := z.up u11
    replace GF := GF.up u11
    replace UP := UP.trans u11
    clear u11
    go_wp2
    go_ret
    exact ⟨rfl, UP⟩
  have hgn : gg ≠ [] := HIG.out.ne (by
    by_cases h1 : Pq.nm ps = []
    · exact .inr (fun h2 => h0 ⟨h1, h2⟩)
    · exact .inl h1)
  have hgm : Pq.nm gg ≠ [] := by rw [Pq.nm_of_tr HIG.out.1.tr]; exact hgn
  have HOK : Hid ((!decide (Pq.nm gg = [])) = true) := Lib.hid (by rw [decide_eq_false hgm]; rfl)
  have HR1 := Lib.hid (Pq.len_zero ((Pq.dqr_div (p := ps) hgm).exact HIG.out.2.1))
  have HR2 := Lib.hid (Pq.len_zero ((Pq.dqr_div (p := qs) hgm).exact HIG.out.2.2.1))
  have HLR1 : Hid ((Pq.dr ps gg).length ≤ 100) := Lib.hid (by rw [← Pq.nm_of_tr (Pq.dr_tr ps gg), (Pq.dqr_div (p := ps) hgm).exact HIG.out.2.1]; simp)
  have HLR2 : Hid ((Pq.dr qs gg).length ≤ 100) := Lib.hid (by rw [← Pq.nm_of_tr (Pq.dr_tr qs gg), (Pq.dqr_div (p := qs) hgm).exact HIG.out.2.2.1]; simp)
  clear hgn hgm
  by_cases h1 : Pq.nm ps = []
  · have HD1 := Lib.hid (Pq.len_zero h1)
    obtain ⟨dy, HDY⟩ : ∃ d : Nat, Hid (((Pq.nm qs).length : Int) - 1 = (d : Int)) := ⟨(Pq.nm qs).length - 1, Lib.hid (by
      have : Pq.nm qs ≠ [] := fun h2 => h0 ⟨h1, h2⟩
      have := List.length_pos_iff.2 this
      omega)⟩
    have ky : decide ((dy : Int) < 0) = false := decide_eq_false (by omega)
    clear h0 h1
    ((with_reducible refine (poly_degree x.sq (by omega) (by omega)).mono ?_))
    rintro e W8 ⟨rfl, u8⟩
    replace x := x.up u8
    replace y := y.up u8
    replace z := z.up u8
    replace GF := GF.up u8
    replace UP := UP.trans u8
    clear u8
    rw [HD1.out]
    go_wp2_with fail
    ((with_reducible refine (poly_degree y.sq (by omega) (by omega)).mono ?_))
    rintro e W9 ⟨rfl, u9⟩
    replace x := x.up u9
    replace y := y.up u9
    replace z := z.up u9
    replace GF := GF.up u9
    replace UP := UP.trans u9
    clear u9
    rw [HDY.out]
    go_wp2_with fail
    ((with_reducible refine (poly_div x GF (K := 40000) (by omega) (by omega) LP.out LG.out (by omega) (by omega) (by omega) (by omega)).mono ?_))
    rintro e W10 ⟨V10, R10, rfl, qa, ra, u10⟩
    replace x := x.up u10
    replace y := y.up u10
    replace z := z.up u10
    replace GF := GF.up u10
    replace UP := UP.trans u10
    clear u10
    rw [HOK.out]
    go_wp2_with fail
    ((with_reducible refine (poly_div y GF (K := 40000) (by omega) (by omega) LQ.out LG.out (by omega) (by omega) (by omega) (by omega)).mono ?_))
    rintro e W11 ⟨V11, R11, rfl, qb, rb, u11⟩
    replace x := x.up u11
    replace y := y.up u11
    replace z := z.up u11
    replace GF := GF.up u11
    replace qa := qa.up u11
    replace ra := ra.up u11
    replace UP := UP.trans u11
    clear u11
    rw [HOK.out]
    go_wp2_with fail
    ((with_reducible refine (poly_mul2 x z LP.out LZ.out (by omega) (by omega) (by omega) (by omega) (by omega)).mono ?_))
    rintro e W12 ⟨V12, rfl, m1, u12⟩
    replace x := x.up u12
    replace y := y.up u12
    replace z := z.up u12
    replace GF := GF.up u12
    replace qa := qa.up u12
    replace ra := ra.up u12
    replace qb := qb.up u12
    replace rb := rb.up u12
    replace UP := UP.trans u12
    clear u12
    rw [HP1.out] at m1
    go_wp2_with fail
    ((with_reducible refine (poly_mul2 y z LQ.out LZ.out (by omega) (by omega) (by omega) (by omega) (by omega)).mono ?_))
    rintro e W13 ⟨V13, rfl, m2, u13⟩
    replace x := x.up u13
    replace y := y.up u13
    replace z := z.up u13
    replace GF := GF.up u13
    replace qa := qa.up u13
    replace ra := ra.up u13
    replace qb := qb.up u13
    replace rb := rb.up u13
    replace m1 := m1.up u13
    replace UP := UP.trans u13
    clear u13
    rw [HP2.out] at m2
    go_wp2_with fail
    ((with_reducible refine (poly_gcd m1.fs m2.fs hl1 hl2 (by omega) LP1.out LP2.out HK1 (by omega) (by omega) (by omega)).mono ?_))
    rintro e W14 ⟨V14, gmh, rfl, mh, imh, lmh, nmh, u14⟩
    replace x := x.up u14
    replace y := y.up u14
    replace z := z.up u14
    replace GF := GF.up u14
    replace qa := qa.up u14
    replace ra := ra.up u14
    replace qb := qb.up u14
    replace rb := rb.up u14
    replace m1 := m1.up u14
    replace m2 := m2.up u14
    replace UP := UP.trans u14
    clear u14
    have IH := Lib.hid imh
    have NH := Lib.hid nmh
    clear imh nmh lmh
    go_wp2_with fail
    ((with_reducible refine (poly_mul2 GF z LG.out LZ.out (by omega) (by omega) (by omega) (by omega) (by omega)).mono ?_))
    rintro e W15 ⟨V15, rfl, m3, u15⟩
    replace x := x.up u15
    replace y := y.up u15
    replace z := z.up u15
    replace GF := GF.up u15
    replace qa := qa.up u15
    replace ra := ra.up u15
    replace qb := qb.up u15
    replace rb := rb.up u15
    replace m1 := m1.up u15
    replace m2 := m2.up u15
    replace mh := mh.up u15
    replace UP := UP.trans u15
    clear u15
    rw [HP3.out] at m3
    go_wp2_with fail
    ((with_reducible refine (poly_gcd m3.fs (fs_nil 1 _) hl3 (by simp) (by omega) LP3.out Pq.Lp.nil HK3 (by omega) (by omega) (by omega)).mono ?_))
    rintro e W16 ⟨V16, gmk, rfl, mk, imk, lmk, nmk, u16⟩
    replace x := x.up u16
    replace y := y.up u16
    replace z := z.up u16
    replace GF := GF.up u16
    replace qa := qa.up u16
    replace ra := ra.up u16
    replace qb := qb.up u16
    replace rb := rb.up u16
    replace m1 := m1.up u16
    replace m2 := m2.up u16
    replace mh := mh.up u16
    replace m3 := m3.up u16
    replace UP := UP.trans u16
    clear u16
    have IK := Lib.hid imk
    have NK := Lib.hid nmk
    clear imk nmk lmk
    have HEQ : gmh = gmk := HIG.out.times (z := zs) (fun t => by rw [← HP1.out, Pq.E_nm, Pq.E_mul]) (fun t => by rw [← HP2.out, Pq.E_nm, Pq.E_mul]) (fun t => by rw [← HP3.out, Pq.E_nm, Pq.E_mul]) IH.out IK.out
    have HSM : Hid (decide (Pq.nm gmh = Pq.nm gmk) = true) := Lib.hid (by rw [HEQ]; exact decide_eq_true rfl)
    clear HEQ
    have hnh : gmh.length ≤ 100 := by have := NH.out; omega
    have hnk : gmk.length ≤ 100 := by have := NK.out; simp only [List.length_nil] at this; omega
    go_wp2_with fail
    ((with_reducible refine (poly_degree ra.fs.sq (by have := HLR1.out; omega) (by omega)).mono ?_))
    rintro e W17 ⟨rfl, u17⟩
    replace x := x.up u17
    replace y := y.up u17
    replace z := z.up u17
    replace GF := GF.up u17
    replace qa := qa.up u17
    replace ra := ra.up u17
    replace qb := qb.up u17
    replace rb := rb.up u17
    replace m1 := m1.up u17
    replace m2 := m2.up u17
    replace mh := mh.up u17
    replace m3 := m3.up u17
    replace mk := mk.up u17
    replace UP := UP.trans u17
    clear u17
    rw [HR1.out]
    go_wp2_with fail
    ((with_reducible refine (poly_degree rb.fs.sq (by have := HLR2.out; omega) (by omega)).mono ?_))
    rintro e W18 ⟨rfl, u18⟩
    replace x := x.up u18
    replace y := y.up u18
    replace z := z.up u18
    replace GF := GF.up u18
    replace qa := qa.up u18
    replace ra := ra.up u18
    replace qb := qb.up u18
    replace rb := rb.up u18
    replace m1 := m1.up u18
    replace m2 := m2.up u18
    replace mh := mh.up u18
    replace m3 := m3.up u18
    replace mk := mk.up u18
    replace UP := UP.trans u18
    clear u18
    rw [HR2.out]
    go_wp2_with fail
    ((with_reducible refine (poly_same (mh.fs.mono (k := 300000) (by omega)).sq (mk.fs.mono (k := 300000) (by omega)).sq (by omega) (by omega) (by omega)).mono ?_))
    rintro e W19 ⟨rfl, u19⟩
    replace x := x.up u19
    replace y := y.up u19
    replace z := z.up u19
    replace GF := GF.up u19
    replace qa := qa.up u19
    replace ra := ra.up u19
    replace qb := qb.up u19
    replace rb := rb.up u19
    replace m1 := m1.up u19
    replace m2 := m2.up u19
    replace mh := mh.up u19
    replace m3 := m3.up u19
    replace mk := mk.up u19
    replace UP := UP.trans u19
    clear u19
    rw [HSM.out]
    clear qa ra qb rb m1 m2 m3 mh mk
    go_wp2_with fail
    ((with_reducible refine (poly_div x z (K := 100) (by omega) (by omega) LP.out LZ.out (by omega) (by omega) (by omega) (by omega)).mono ?_))
    rintro e W20 ⟨V20, R20, rfl, q, t, u20⟩
    replace x := x.up u20
    replace y := y.up u20
    replace z := z.up u20
    replace GF := GF.up u20
    replace UP := UP.trans u20
    clear u20
    by_cases hz : Pq.nm zs = []
    · have HZ1 : Hid ((!decide (Pq.nm zs = [])) = false) := Lib.hid (by rw [decide_eq_true hz]; rfl)
      have HZ2 := Lib.hid (Pq.len_zero hz)
      clear hz
      rw [HZ1.out]
      go_wp2_with fail
      ((with_reducible refine (poly_degree z.sq (by omega) (by omega)).mono ?_))
      rintro e W21 ⟨rfl, u21⟩
      replace x := x.up u21
      replace y := y.up u21
      replace z := z.up u21
      replace GF := GF.up u21
      replace q := q.up u21
      replace t := t.up u21
      replace UP := UP.trans u21
      clear u21
      rw [HZ2.out]
      go_wp2_with fail
      ((with_reducible refine (works14 _).mono ?_))
      rintro e W22 ⟨rfl, u22⟩
      replace x := x.up u22
      replace y := y.up u22
      replace z := z.up u22
      replace GF := GF.up u22
      replace q := q.up u22
      replace t := t.up u22
      replace UP := UP.trans u22
      clear u22
      go_wp2
      go_ret
      exact ⟨rfl, UP⟩
    have HZ1 : Hid ((!decide (Pq.nm zs = [])) = true) := Lib.hid (by rw [decide_eq_false hz]; rfl)
    obtain ⟨dz, HDZ⟩ : ∃ d : Nat, Hid (((Pq.nm zs).length : Int) - 1 = (d : Int)) := ⟨(Pq.nm zs).length - 1, Lib.hid (by have := List.length_pos_iff.2 hz; omega)⟩
    obtain ⟨dt, HDT⟩ : ∃ d : Int, Hid (((Pq.nm (Pq.dr ps zs)).length : Int) - 1 = d) := ⟨_, Lib.hid rfl⟩
    have hlt : dt < (dz : Int) := by rw [← HDZ.out, ← HDT.out]; have := Pq.rest_len ps zs hz; omega
    have HBK : Hid (decide (Pq.nm (Pq.nm (Pq.add (Pq.nm (Pq.mul (Pq.dq ps zs) zs)) (Pq.dr ps zs))) = Pq.nm ps) = true) := Lib.hid (decide_eq_true (Pq.back ps zs hz))
    have HSQ := Lib.hid (Pq.dqr_size LP.out LZ.out)
    have hql : (Pq.dq ps zs).length ≤ 6 := Nat.le_trans (Pq.dq_len _ _) (by omega)
    have htl : (Pq.dr ps zs).length ≤ 5 := Nat.le_trans (Pq.dr_len _ _) (by omega)
    have LQ1 : Hid (Pq.Lp (Pq.dq ps zs) 47) := Lib.hid (HSQ.out.1.mono (by omega))
    have LT1 : Hid (Pq.Lp (Pq.dr ps zs) 47) := Lib.hid (HSQ.out.2.mono (by omega))
    have LMZ := Lib.hid (LQ1.out.mul LZ.out (by omega))
    have HLMZ : Hid ((Pq.nm (Pq.mul (Pq.dq ps zs) zs)).length ≤ 100) := Lib.hid (Nat.le_trans (Pq.nm_mul_len _ _) (by omega))
    have HLAZ : Hid ((Pq.nm (Pq.add (Pq.nm (Pq.mul (Pq.dq ps zs) zs)) (Pq.dr ps zs))).length ≤ 1000) := Lib.hid (Nat.le_trans (Pq.nm_len _) (by rw [Pq.add_len]; have := HLMZ.out; omega))
    clear hz
    rw [HZ1.out]
    have kz : decide ((dz : Int) < 0) = false := decide_eq_false (by omega)
    have kt : decide (dt < (dz : Int)) = true := decide_eq_true hlt
    go_wp2_with fail
    ((with_reducible refine (poly_degree z.sq (by omega) (by omega)).mono ?_))
    rintro e W21 ⟨rfl, u21⟩
    replace x := x.up u21
    replace y := y.up u21
    replace z := z.up u21
    replace GF := GF.up u21
    replace q := q.up u21
    replace t := t.up u21
    replace UP := UP.trans u21
    clear u21
    rw [HDZ.out]
    go_wp2_with fail
    ((with_reducible refine (poly_mul2 q.fs z LQ1.out LZ.out (by omega) (by omega) (by omega) (by omega) (by omega)).mono ?_))
    rintro e W22 ⟨V22, rfl, mz, u22⟩
    replace x := x.up u22
    replace y := y.up u22
    replace z := z.up u22
    replace GF := GF.up u22
    replace q := q.up u22
    replace t := t.up u22
    replace UP := UP.trans u22
    clear u22
    go_wp2_with fail
    ((with_reducible refine (poly_add2 mz.fs t.fs LMZ.out LT1.out (by have := HLMZ.out; omega) (by omega) (by omega) (by omega)).mono ?_))
    rintro e W23 ⟨V23, rfl, az, u23⟩
    replace x := x.up u23
    replace y := y.up u23
    replace z := z.up u23
    replace GF := GF.up u23
    replace q := q.up u23
    replace t := t.up u23
    replace mz := mz.up u23
    replace UP := UP.trans u23
    clear u23
    go_wp2_with fail
    ((with_reducible refine (poly_same (az.fs.mono (k := 1000) (by omega)).sq (x.mono (k := 1000) (by omega)).sq (by have := HLAZ.out; omega) (by omega) (by omega)).mono ?_))
    rintro e W24 ⟨rfl, u24⟩
    replace x := x.up u24
    replace y := y.up u24
    replace z := z.up u24
    replace GF := GF.up u24
    replace q := q.up u24
    replace t := t.up u24
    replace mz := mz.up u24
    replace az := az.up u24
    replace UP := UP.trans u24
    clear u24
    rw [HBK.out]
    go_wp2_with fail
    ((with_reducible refine (poly_degree t.fs.sq (by omega) (by omega)).mono ?_))
    rintro e W25 ⟨rfl, u25⟩
    replace x := x.up u25
    replace y := y.up u25
    replace z := z.up u25
    replace GF := GF.up u25
    replace q := q.up u25
    replace t := t.up u25
    replace mz := mz.up u25
    replace az := az.up u25
    replace UP := UP.trans u25
    clear u25
    rw [HDT.out]
    go_wp2_with fail
    ((with_reducible refine (poly_degree z.sq (by omega) (by omega)).mono ?_))
    rintro e W26 ⟨rfl, u26⟩
    replace x := x.up u26
    replace y := y.up u26
    replace z := z.up u26
    replace GF := GF.up u26
    replace q := q.up u26
    replace t := t.up u26
    replace mz := mz.up u26
    replace az := az.up u26
    replace UP := UP.trans u26
    clear u26
    rw [HDZ.out]
    go_wp2_with fail
    ((with_reducible refine (works14 _).mono ?_))
    rintro e W27 ⟨rfl, u27⟩
    replace x := x.up u27
    replace y := y.up u27
    replace z := z.up u27
    replace GF := GF.up u27
    replace q := q.up u27
    replace t := t.up u27
    replace mz := mz.up u27
    replace az := az.up u27
    replace UP := UP.trans u27
    clear u27
    go_wp2
    go_ret
    exact ⟨rfl, UP⟩
  obtain ⟨dx, HDX⟩ : ∃ d : Nat, Hid (((Pq.nm ps).length : Int) - 1 = (d : Int)) := ⟨(Pq.nm ps).length - 1, Lib.hid (by
    have := List.length_pos_iff.2 h1
    omega)⟩
  have ky : decide ((dx : Int) < 0) = false := decide_eq_false (by omega)
  clear h0 h1
  ((with_reducible refine (poly_degree x.sq (by omega) (by omega)).mono ?_))
  rintro e W8 ⟨rfl, u8⟩
  replace x := x.up u8
  replace y := y.up u8
  replace z := z.up u8
  replace GF := GF.up u8
  replace UP := UP.trans u8
  clear u8
  rw [HDX.out]
  go_wp2_with fail
  ((with_reducible refine (poly_div x GF (K := 40000) (by omega) (by omega) LP.out LG.out (by omega) (by omega) (by omega) (by omega)).mono ?_))
  rintro e W9 ⟨V9, R9, rfl, qa, ra, u9⟩
  replace x := x.up u9
  replace y := y.up u9
  replace z := z.up u9
  replace GF := GF.up u9
  replace UP := UP.trans u9
  clear u9
  rw [HOK.out]
  go_wp2_with fail
  ((with_reducible refine (poly_div y GF (K := 40000) (by omega) (by omega) LQ.out LG.out (by omega) (by omega) (by omega) (by omega)).mono ?_))
  rintro e W10 ⟨V10, R10, rfl, qb, rb, u10⟩
  replace x := x.up u10
  replace y := y.up u10
  replace z := z.up u10
  replace GF := GF.up u10
  replace qa := qa.up u10
  replace ra := ra.up u10
  replace UP := UP.trans u10
  clear u10
  rw [HOK.out]
  go_wp2_with fail
  ((with_reducible refine (poly_mul2 x z LP.out LZ.out (by omega) (by omega) (by omega) (by omega) (by omega)).mono ?_))
  rintro e W11 ⟨V11, rfl, m1, u11⟩
  replace x := x.up u11
  replace y := y.up u11
  replace z := z.up u11
  replace GF := GF.up u11
  replace qa := qa.up u11
  replace ra := ra.up u11
  replace qb := qb.up u11
  replace rb := rb.up u11
  replace UP := UP.trans u11
  clear u11
  rw [HP1.out] at m1
  go_wp2_with fail
  ((with_reducible refine (poly_mul2 y z LQ.out LZ.out (by omega) (by omega) (by omega) (by omega) (by omega)).mono ?_))
  rintro e W12 ⟨V12, rfl, m2, u12⟩
  replace x := x.up u12
  replace y := y.up u12
  replace z := z.up u12
  replace GF := GF.up u12
  replace qa := qa.up u12
  replace ra := ra.up u12
  replace qb := qb.up u12
  replace rb := rb.up u12
  replace m1 := m1.up u12
  replace UP := UP.trans u12
  clear u12
  rw [HP2.out] at m2
  go_wp2_with fail
  ((with_reducible refine (poly_gcd m1.fs m2.fs hl1 hl2 (by omega) LP1.out LP2.out HK1 (by omega) (by omega) (by omega)).mono ?_))
  rintro e W13 ⟨V13, gmh, rfl, mh, imh, lmh, nmh, u13⟩
  replace x := x.up u13
  replace y := y.up u13
  replace z := z.up u13
  replace GF := GF.up u13
  replace qa := qa.up u13
  replace ra := ra.up u13
  replace qb := qb.up u13
  replace rb := rb.up u13
  replace m1 := m1.up u13
  replace m2 := m2.up u13
  replace UP := UP.trans u13
  clear u13
  have IH := Lib.hid imh
  have NH := Lib.hid nmh
  clear imh nmh lmh
  go_wp2_with fail
  ((with_reducible refine (poly_mul2 GF z LG.out LZ.out (by omega) (by omega) (by omega) (by omega) (by omega)).mono ?_))
  rintro e W14 ⟨V14, rfl, m3, u14⟩
  replace x := x.up u14
  replace y := y.up u14
  replace z := z.up u14
  replace GF := GF.up u14
  replace qa := qa.up u14
  replace ra := ra.up u14
  replace qb := qb.up u14
  replace rb := rb.up u14
  replace m1 := m1.up u14
  replace m2 := m2.up u14
  replace mh := mh.up u14
  replace UP := UP.trans u14
  clear u14
  rw [HP3.out] at m3
  go_wp2_with fail
  ((with_reducible refine (poly_gcd m3.fs (fs_nil 1 _) hl3 (by simp) (by omega) LP3.out Pq.Lp.nil HK3 (by omega) (by omega) (by omega)).mono ?_))
  rintro e W15 ⟨V15, gmk, rfl, mk, imk, lmk, nmk, u15⟩
  replace x := x.up u15
  replace y := y.up u15
  replace z := z.up u15
  replace GF := GF.up u15
  replace qa := qa.up u15
  replace ra := ra.up u15
  replace qb := qb.up u15
  replace rb := rb.up u15
  replace m1 := m1.up u15
  replace m2 := m2.up u15
  replace mh := mh.up u15
  replace m3 := m3.up u15
  replace UP := UP.trans u15
  clear u15
  have IK := Lib.hid imk
  have NK := Lib.hid nmk
  clear imk nmk lmk
  have HEQ : gmh = gmk := HIG.out.times (z := zs) (fun t => by rw [← HP1.out, Pq.E_nm, Pq.E_mul]) (fun t => by rw [← HP2.out, Pq.E_nm, Pq.E_mul]) (fun t => by rw [← HP3.out, Pq.E_nm, Pq.E_mul]) IH.out IK.out
  have HSM : Hid (decide (Pq.nm gmh = Pq.nm gmk) = true) := Lib.hid (by rw [HEQ]; exact decide_eq_true rfl)
  clear HEQ
  have hnh : gmh.length ≤ 100 := by have := NH.out; omega
  have hnk : gmk.length ≤ 100 := by have := NK.out; simp only [List.length_nil] at this; omega
  go_wp2_with fail
  ((with_reducible refine (poly_degree ra.fs.sq (by have := HLR1.out; omega) (by omega)).mono ?_))
  rintro e W16 ⟨rfl, u16⟩
  replace x := x.up u16
  replace y := y.up u16
  replace z := z.up u16
  replace GF := GF.up u16
  replace qa := qa.up u16
  replace ra := ra.up u16
  replace qb := qb.up u16
  replace rb := rb.up u16
  replace m1 := m1.up u16
  replace m2 := m2.up u16
  replace mh := mh.up u16
  replace m3 := m3.up u16
  replace mk := mk.up u16
  replace UP := UP.trans u16
  clear u16
  rw [HR1.out]
  go_wp2_with fail
  ((with_reducible refine (poly_degree rb.fs.sq (by have := HLR2.out; omega) (by omega)).mono ?_))
  rintro e W17 ⟨rfl, u17⟩
  replace x := x.up u17
  replace y := y.up u17
  replace z := z.up u17
  replace GF := GF.up u17
  replace qa := qa.up u17
  replace ra := ra.up u17
  replace qb := qb.up u17
  replace rb := rb.up u17
  replace m1 := m1.up u17
  replace m2 := m2.up u17
  replace mh := mh.up u17
  replace m3 := m3.up u17
  replace mk := mk.up u17
  replace UP := UP.trans u17
  clear u17
  rw [HR2.out]
  go_wp2_with fail
  ((with_reducible refine (poly_same (mh.fs.mono (k := 300000) (by omega)).sq (mk.fs.mono (k := 300000) (by omega)).sq (by omega) (by omega) (by omega)).mono ?_))
  rintro e W18 ⟨rfl, u18⟩
  replace x := x.up u18
  replace y := y.up u18
  replace z := z.up u18
  replace GF := GF.up u18
  replace qa := qa.up u18
  replace ra := ra.up u18
  replace qb := qb.up u18
  replace rb := rb.up u18
  replace m1 := m1.up u18
  replace m2 := m2.up u18
  replace mh := mh.up u18
  replace m3 := m3.up u18
  replace mk := mk.up u18
  replace UP := UP.trans u18
  clear u18
  rw [HSM.out]
  clear qa ra qb rb m1 m2 m3 mh mk
  go_wp2_with fail
  ((with_reducible refine (poly_div x z (K := 100) (by omega) (by omega) LP.out LZ.out (by omega) (by omega) (by omega) (by omega)).mono ?_))
  rintro e W19 ⟨V19, R19, rfl, q, t, u19⟩
  replace x := x.up u19
  replace y := y.up u19
  replace z := z.up u19
  replace GF := GF.up u19
  replace UP := UP.trans u19
  clear u19
  by_cases hz : Pq.nm zs = []
  · have HZ1 : Hid ((!decide (Pq.nm zs = [])) = false) := Lib.hid (by rw [decide_eq_true hz]; rfl)
    have HZ2 := Lib.hid (Pq.len_zero hz)
    clear hz
    rw [HZ1.out]
    go_wp2_with fail
    ((with_reducible refine (poly_degree z.sq (by omega) (by omega)).mono ?_))
    rintro e W20 ⟨rfl, u20⟩
    replace x := x.up u20
    replace y := y.up u20
    replace z := z.up u20
    replace GF := GF.up u20
    replace q := q.up u20
    replace t := t.up u20
    replace UP := UP.trans u20
    clear u20
    rw [HZ2.out]
    go_wp2_with fail
    ((with_reducible refine (works14 _).mono ?_))
    rintro e W21 ⟨rfl, u21⟩
    replace x := x.up u21
    replace y := y.up u21
    replace z := z.up u21
    replace GF := GF.up u21
    replace q := q.up u21
    replace t := t.up u21
    replace UP := UP.trans u21
    clear u21
    go_wp2
    go_ret
    exact ⟨rfl, UP⟩
  have HZ1 : Hid ((!decide (Pq.nm zs = [])) = true) := Lib.hid (by rw [decide_eq_false hz]; rfl)
  obtain ⟨dz, HDZ⟩ : ∃ d : Nat, Hid (((Pq.nm zs).length : Int) - 1 = (d : Int)) := ⟨(Pq.nm zs).length - 1, Lib.hid (by have := List.length_pos_iff.2 hz; omega)⟩
  obtain ⟨dt, HDT⟩ : ∃ d : Int, Hid (((Pq.nm (Pq.dr ps zs)).length : Int) - 1 = d) := ⟨_, Lib.hid rfl⟩
  have hlt : dt < (dz : Int) := by rw [← HDZ.out, ← HDT.out]; have := Pq.rest_len ps zs hz; omega
  have HBK : Hid (decide (Pq.nm (Pq.nm (Pq.add (Pq.nm (Pq.mul (Pq.dq ps zs) zs)) (Pq.dr ps zs))) = Pq.nm ps) = true) := Lib.hid (decide_eq_true (Pq.back ps zs hz))
  have HSQ := Lib.hid (Pq.dqr_size LP.out LZ.out)
  have hql : (Pq.dq ps zs).length ≤ 6 := Nat.le_trans (Pq.dq_len _ _) (by omega)
  have htl : (Pq.dr ps zs).length ≤ 5 := Nat.le_trans (Pq.dr_len _ _) (by omega)
  have LQ1 : Hid (Pq.Lp (Pq.dq ps zs) 47) := Lib.hid (HSQ.out.1.mono (by omega))
  have LT1 : Hid (Pq.Lp (Pq.dr ps zs) 47) := Lib.hid (HSQ.out.2.mono (by omega))
  have LMZ := Lib.hid (LQ1.out.mul LZ.out (by omega))
  have HLMZ : Hid ((Pq.nm (Pq.mul (Pq.dq ps zs) zs)).length ≤ 100) := Lib.hid (Nat.le_trans (Pq.nm_mul_len _ _) (by omega))
  have HLAZ : Hid ((Pq.nm (Pq.add (Pq.nm (Pq.mul (Pq.dq ps zs) zs)) (Pq.dr ps zs))).length ≤ 1000) := Lib.hid (Nat.le_trans (Pq.nm_len _) (by rw [Pq.add_len]; have := HLMZ.out; omega))
  clear hz
  rw [HZ1.out]
  have kz : decide ((dz : Int) < 0) = false := decide_eq_false (by omega)
  have kt : decide (dt < (dz : Int)) = true := decide_eq_true hlt
  go_wp2_with fail
  ((with_reducible refine (poly_degree z.sq (by omega) (by omega)).mono ?_))
  rintro e W20 ⟨rfl, u20⟩
  replace x := x.up u20
  replace y := y.up u20
  replace z := z.up u20
  replace GF := GF.up u20
  replace q := q.up u20
  replace t := t.up u20
  replace UP := UP.trans u20
  clear u20
  rw [HDZ.out]
  go_wp2_with fail
  ((with_reducible refine (poly_mul2 q.fs z LQ1.out LZ.out (by omega) (by omega) (by omega) (by omega) (by omega)).mono ?_))
  rintro e W21 ⟨V21, rfl, mz, u21⟩
  replace x := x.up u21
  replace y := y.up u21
  replace z := z.up u21
  replace GF := GF.up u21
  replace q := q.up u21
  replace t := t.up u21
  replace UP := UP.trans u21
  clear u21
  go_wp2_with fail
  ((with_reducible refine (poly_add2 mz.fs t.fs LMZ.out LT1.out (by have := HLMZ.out; omega) (by omega) (by omega) (by omega)).mono ?_))
  rintro e W22 ⟨V22, rfl, az, u22⟩
  replace x := x.up u22
  replace y := y.up u22
  replace z := z.up u22
  replace GF := GF.up u22
  replace q := q.up u22
  replace t := t.up u22
  replace mz := mz.up u22
  replace UP := UP.trans u22
  clear u22
  go_wp2_with fail
  ((with_reducible refine (poly_same (az.fs.mono (k := 1000) (by omega)).sq (x.mono (k := 1000) (by omega)).sq (by have := HLAZ.out; omega) (by omega) (by omega)).mono ?_))
  rintro e W23 ⟨rfl, u23⟩
  replace x := x.up u23
  replace y := y.up u23
  replace z := z.up u23
  replace GF := GF.up u23
  replace q := q.up u23
  replace t := t.up u23
  replace mz := mz.up u23
  replace az := az.up u23
  replace UP := UP.trans u23
  clear u23
  rw [HBK.out]
  go_wp2_with fail
  ((with_reducible refine (poly_degree t.fs.sq (by omega) (by omega)).mono ?_))
  rintro e W24 ⟨rfl, u24⟩
  replace x := x.up u24
  replace y := y.up u24
  replace z := z.up u24
  replace GF := GF.up u24
  replace q := q.up u24
  replace t := t.up u24
  replace mz := mz.up u24
  replace az := az.up u24
  replace UP := UP.trans u24
  clear u24
  rw [HDT.out]
  go_wp2_with fail
  ((with_reducible refine (poly_degree z.sq (by omega) (by omega)).mono ?_))
  rintro e W25 ⟨rfl, u25⟩
  replace x := x.up u25
  replace y := y.up u25
  replace z := z.up u25
  replace GF := GF.up u25
  replace q := q.up u25
  replace t := t.up u25
  replace mz := mz.up u25
  replace az := az.up u25
  replace UP := UP.trans u25
  clear u25
  rw [HDZ.out]
  go_wp2_with fail
  ((with_reducible refine (works14 _).mono ?_))
  rintro e W26 ⟨rfl, u26⟩
  replace x := x.up u26
  replace y := y.up u26
  replace z := z.up u26
  replace GF := GF.up u26
  replace q := q.up u26
  replace t := t.up u26
  replace mz := mz.up u26
  replace az := az.up u26
  replace UP := UP.trans u26
  clear u26
  go_wp2
  go_ret
  exact ⟨rfl, UP⟩
end Go.Proofs.Ytmmcffceeahemaa
