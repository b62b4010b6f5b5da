/-
  Layers 11 and 14: rows of fractions, so many times; right polynomials.
  Layer 14: degrees, multiples, values, derivatives.
-/
import Derived.Test.YtmmcffceeahemaaGreatZtSeqLaw
import Derived.Test.YtmmcffceeahemaaGreatZtPolyPlain
import Derived.Test.YtmmcffceeahemaaGreatZtShort
set_option linter.unusedVariables false
set_option linter.unusedSimpArgs false
namespace Go.Proofs.YtmmcffceeahemaaGreat
open Go.RowKit
/-- A row of the call's own, of right fractions. -/
def PRow (k : Nat) (w0 w : World) (v : Value) (qs : List Rat) : Prop := OwnQ (Qk k) 34 w0.heap.size w v qs
theorem PRow.up {k : Nat} {w0 w w' : World} {v : Value} {qs : List Rat} (h : PRow k w0 w v qs) (hu : Up w w') : PRow k w0 w' v qs := OwnQ.up (kp_qk k) h hu
instance PRow.lup {k : Nat} {w0 w w' : World} {v : Value} {qs : List Rat} : Lu (Up w w') (PRow k w0 w v qs) (PRow k w0 w' v qs) := luM fun u h => h.up u
theorem PRow.q {k : Nat} {w0 w : World} {v : Value} {qs : List Rat} (h : PRow k w0 w v qs) : Sq (Qk k) w v qs := OwnQ.sq h
theorem PRow.fr {k : Nat} {w0 w : World} {v : Value} {qs : List Rat} (h : PRow k w0 w v qs) : Sq (Frk k) w v qs := h.q.imp fun hx => hx.1.fr hx.2
theorem PRow.form {k : Nat} {w0 w : World} {v : Value} {qs : List Rat} (h : PRow k w0 w v qs) : ∃ A c, v = .slice A qs.length c := OwnQ.form h
theorem PRow.weaken {k : Nat} {w0 w1 w : World} {v : Value} {qs : List Rat} (h : PRow k w1 w v qs) (hu : Up w0 w1) : PRow k w0 w v qs := OwnQ.weaken h hu.size
theorem Qk.mono {j k : Nat} {w : World} {v : Value} {q : Rat} (h : Qk j w v q) (hk : j ≤ k) : Qk k w v q := ⟨h.1, h.2.mono hk⟩
theorem PRow.mono {j k : Nat} {w0 w : World} {v : Value} {qs : List Rat} (h : PRow j w0 w v qs) (hk : j ≤ k) : PRow k w0 w v qs := OwnQ.imp h fun hx => hx.mono hk
/-- What comes back: a row of its own. -/
def RetP (k : Nat) (qs : List Rat) (w : World) (e : Ending) (w' : World) : Prop := ∃ v, e = .returned v ∧ PRow k w w' v qs ∧ Up w w'
/-- Cut short. -/
theorem OwnQ.cut {α : Type} {P : World → Value → α → Prop} {T : TypeId} {base : Nat} {w : World} {A : Option Addr} {m c : Nat} {qs : List α} (h : OwnQ P T base w (.slice A m c) qs) {n : Nat} (hn : n ≤ qs.length) : OwnQ P T base w (.slice A n c) (qs.take n) := by
 obtain ⟨xs, ha, hr⟩ := h
 have hnx : n ≤ xs.length := by rw [ha.1]; exact hn
 refine ⟨xs.take n, ha.take n, fun x hx => hr.1 x (List.mem_of_mem_take hx), ?_⟩
 rcases hr.2 with ⟨e, rfl⟩ | ⟨g, ys, e, hb, hx, hy, hm⟩
 · cases e
   obtain rfl : n = 0 := by simpa using hnx
   exact .inl ⟨rfl, rfl⟩
 · cases e
   refine .inr ⟨g, xs.drop n ++ ys, ?_, hb, ?_, fun y hy' => ?_, ?_⟩
   · simp [List.length_take, Nat.min_eq_left hnx]; omega
   · rw [← List.append_assoc, List.take_append_drop]; exact hx
   · rcases List.mem_append.1 hy' with h | h
     · exact hr.1 y (List.mem_of_mem_drop h)
     · exact hy y h
   · simp [List.length_take, Nat.min_eq_left hnx]; omega
set_option maxRecDepth 100000 in
set_option maxHeartbeats 3200000 in
theorem row_scale {vc v : Value} {c : Rat} {qs : List Rat} {kc ka : Nat} {w : World} (hc : Fr w vc c kc) (h : Sq (Frk ka) w v qs) (hl : qs.length ≤ 100000000) (hkc : kc ≤ 20000000) (hka : ka ≤ 20000000) : Calls Tryz.prog 107 #[vc, v] w (RetP (kc + ka) (Pq.sc c qs) w) := by
 have LC := hc.lq
 obtain ⟨x0, rfl, ⟨A1, n1, c1, e1⟩, ⟨D1, n2, c2, e2⟩⟩ := (kp_fr kc).form hc
 obtain ⟨s0, u0, d0⟩ := x0
 simp only at e1 e2
 subst e1 e2
 have FC : Fr w (.agg #[.bool s0, .slice A1 n1 c1, .slice D1 n2 c2]) c kc := hc
 clear hc
 obtain ⟨A, cv, rfl⟩ := h.form
 have UP : Up w (w.alloc (.cells #[.bool s0, .slice A1 n1 c1, .slice D1 n2 c2] 34)) := (Up.refl w).alloc _
 have b0 := Bx.new 34 w [.bool s0, .slice A1 n1 c1, .slice D1 n2 c2]
 show Calls Tryz.prog 107 #[.agg #[.bool s0, .slice A1 n1 c1, .slice D1 n2 c2], .slice A qs.length cv] w _
 go_enter Tryz.func107, Tryz.ntmps107
 go_wp2_with fail
 generalize (w.alloc (.cells #[.bool s0, .slice A1 n1 c1, .slice D1 n2 c2] 34)) = W at *
 replace FC := FC.up UP
 obtain ⟨b0_0, b0_1, b0_2⟩ := b0.c3
 have H := Lib.hid (h.up (kp_fr ka) UP)
 have HFC := Lib.hid FC
 have HB := Lib.hid b0
 clear h FC b0 b0_0 b0_1 b0_2
 go_loopw [5, 10] (fun s5 s10 wr => ∃ j : Nat, s10 = .int .i64 j ∧ j ≤ qs.length ∧ PRow (kc + ka) W wr s5 (Pq.sc c (qs.take j)) ∧ Up W wr) (fun _ s10 _ => qs.length - (intOf s10).toNat)
 case atStart => exact ⟨0, rfl, Nat.zero_le _, OwnQ.nil _ _ _ _, Up.refl W⟩
 case round =>
  obtain ⟨j, rfl, hj, MR, UW⟩ := hrel
  by_cases hlt : j < qs.length
  · obtain ⟨b, o, s, B, m, f, D, n', f', rfl, hb, g1, g2, g3, hp⟩ := (H.out.up (kp_fr ka) UW).at_ (kp_fr ka) hlt
    have HTK : Hid (Pq.sc c (qs.take (j + 1)) = Pq.sc c (qs.take j) ++ [c * qs[j]]) := Lib.hid (by unfold Pq.sc; rw [List.take_succ_eq_append_getElem hlt, List.map_append]; rfl)
    have HTL : Hid ((Pq.sc c (qs.take j)).length = j) := Lib.hid (by simp [Pq.sc]; omega)
    generalize qs[j] = q at *
    have FX : Fr wr (.agg #[.bool s, .slice B m f, .slice D n' f']) q ka := hp
    have LX := FX.lq
    have FC := HFC.out.up UW
    have b0 := HB.out.up UW
    have UP := Up.refl wr
    clear hp
    obtain ⟨C7, c7, rfl⟩ := MR.form
    rw [HTL.out] at MR ⊢
    have k1 : (j : Int) < (qs.length : Int) := by omega
    have k0 : (0 : Int) ≤ (j : Int) := by omega
    have kk : ((j : Int)).toNat = j := by omega
    obtain ⟨b0_0, b0_1, b0_2⟩ := b0.c3
    have b0_0a := cA b0_0
    have b0_1a := cA b0_1
    have b0_2a := cA b0_2
    go_wp2_with fail
    clear b0_0a b0_1a b0_2a
    have a1 := Bx.new 34 wr [.bool s, .slice B m f, .slice D n' f']
    have b0_lt_a1 := b0.lt
    have nu := ((Up.refl wr).alloc (.cells #[.bool s, .slice B m f, .slice D n' f'] 34))
    revert FX FC b0 UP MR; revert nu; refine lh5 ?_; intro FX FC b0 UP MR
    generalize (wr.alloc (.cells #[.bool s, .slice B m f, .slice D n' f'] 34)) = W51 at *
    clear b0_0 b0_1 b0_2
    obtain ⟨b0_0, b0_1, b0_2⟩ := b0.c3
    obtain ⟨a1_0, a1_1, a1_2⟩ := a1.c3
    clear g1 g2 g3
    ((with_reducible refine (frac_mul FC FX (by omega) (by omega)).mono ?_))
    rintro e W52 ⟨V52, rfl, y, u52⟩
    revert a1 FX FC b0 UP MR b0_0 b0_1 b0_2 a1_0 a1_1 a1_2; revert u52; refine lh12 ?_; intro a1 FX FC b0 UP MR b0_0 b0_1 b0_2 a1_0 a1_1 a1_2
    have LP := LC.mul LX
    obtain ⟨P, HP⟩ : ∃ P, Hid (c * q = P) := ⟨_, Lib.hid rfl⟩
    rw [HP.out] at y HTK LP
    obtain ⟨Xy, Yy, rfl, y, yd⟩ := y
    obtain ⟨Ay, ny, cy, rfl⟩ := y.shape
    obtain ⟨Ayd, nyd, cyd, rfl⟩ := yd.shape
    have HA : Hid (PRow (kc + ka) W (W52.alloc (.cells #[.bool (Wd.ngb P.num), .slice Ay ny cy, .slice Ayd nyd cyd] 34)) (.slice C7 j c7) (Pq.sc c (qs.take j))) := Lib.hid (MR.up ((Up.refl W52).alloc _))
    have HQ : Hid (Qk ((kc + ka)) (W52.alloc (.cells #[.bool (Wd.ngb P.num), .slice Ay ny cy, .slice Ayd nyd cyd] 34)) (.agg #[.bool (Wd.ngb P.num), .slice Ay ny cy, .slice Ayd nyd cyd]) P) := Lib.hid ⟨Qw.up ⟨_, _, rfl, y, yd⟩ ((Up.refl W52).alloc _), LP⟩
    have HU := Lib.hid ((UW.trans UP).alloc (.cells #[.bool (Wd.ngb P.num), .slice Ay ny cy, .slice Ayd nyd cyd] 34))
    go_wp2_with (at_builtin; refine wl_append_q1 (kp_qk _) Tryz.underlying49 info_frac (w0 := W) rfl _ _ rfl rfl HA.out HU.out rfl (heap_alloc_new W52 _) HQ.out (by rw [HTL.out]; omega) ?_; intro V8 W8 MR8 K8 G8 UP8)
    rw [← HTK.out] at MR8
    go_roundw
    case rel => exact ⟨j + 1, by go_num, by omega, MR8, UP8⟩
    case measure => simp [intOf]; omega
  · obtain rfl : j = qs.length := by omega
    rw [List.take_length] at MR
    go_wp2
    go_ret
    exact ⟨_, rfl, MR.weaken UP, UP.trans UW⟩
set_option maxRecDepth 100000 in
set_option maxHeartbeats 3200000 in
theorem row_norm {v : Value} {qs : List Rat} {ka : Nat} {w : World} (h : Sq (Frk ka) w v qs) (hl : qs.length ≤ 100000000) (hka : ka ≤ 20000000) : Calls Tryz.prog 154 #[v] w (RetP ka qs w) := by
 obtain ⟨A, cv, rfl⟩ := h.form
 have UP := Up.refl w
 obtain ⟨W, hW⟩ : ∃ W, W = w := ⟨_, rfl⟩
 subst hW
 have H := Lib.hid h
 clear h
 go_enter Tryz.func154, Tryz.ntmps154
 go_wp2
 go_loopw [3, 8] (fun s5 s10 wr => ∃ j : Nat, s10 = .int .i64 j ∧ j ≤ qs.length ∧ PRow ka W wr s5 (qs.take j) ∧ Up W wr) (fun _ s10 _ => qs.length - (intOf s10).toNat)
 case atStart => exact ⟨0, rfl, Nat.zero_le _, OwnQ.nil _ _ _ _, Up.refl W⟩
 case round =>
  obtain ⟨j, rfl, hj, MR, UW⟩ := hrel
  by_cases hlt : j < qs.length
  · obtain ⟨b, o, s, B, m, f, D, n', f', rfl, hb, g1, g2, g3, hp⟩ := (H.out.up (kp_fr ka) UW).at_ (kp_fr ka) hlt
    have HTK : Hid (qs.take (j + 1) = qs.take j ++ [qs[j]]) := Lib.hid (List.take_succ_eq_append_getElem hlt)
    have HTL : Hid ((qs.take j).length = j) := Lib.hid (by rw [List.length_take]; omega)
    generalize qs[j] = P at *
    have FX : Fr wr (.agg #[.bool s, .slice B m f, .slice D n' f']) P ka := hp
    have LP := FX.lq
    have UP := Up.refl wr
    clear hp
    obtain ⟨C7, c7, rfl⟩ := MR.form
    rw [HTL.out] at MR ⊢
    have k1 : (j : Int) < (qs.length : Int) := by omega
    have k0 : (0 : Int) ≤ (j : Int) := by omega
    have kk : ((j : Int)).toNat = j := by omega
    have UP : Up wr wr := Up.refl wr
    go_wp2_with fail
    have a1 := Bx.new 34 wr [.bool s, .slice B m f, .slice D n' f']
    have nu := ((Up.refl wr).alloc (.cells #[.bool s, .slice B m f, .slice D n' f'] 34))
    revert FX MR UP; revert nu; refine lh3 ?_; intro FX MR UP
    generalize (wr.alloc (.cells #[.bool s, .slice B m f, .slice D n' f'] 34)) = W1 at *
    obtain ⟨a1_0, a1_1, a1_2⟩ := a1.c3
    clear g1 g2 g3
    ((with_reducible refine (frac_norm FX (by omega)).mono ?_))
    rintro e W2 ⟨V2, rfl, y, u2⟩
    revert a1 FX MR UP a1_0 a1_1 a1_2; revert u2; refine lh7 ?_; intro a1 FX MR UP a1_0 a1_1 a1_2
    obtain ⟨Xy, Yy, rfl, y, yd⟩ := y
    obtain ⟨Ay, ny, cy, rfl⟩ := y.shape
    obtain ⟨Ayd, nyd, cyd, rfl⟩ := yd.shape
    have HA : Hid (PRow ka W (W2.alloc (.cells #[.bool (Wd.ngb P.num), .slice Ay ny cy, .slice Ayd nyd cyd] 34)) (.slice C7 j c7) (qs.take j)) := Lib.hid (MR.up ((Up.refl W2).alloc _))
    have HQ : Hid (Qk (ka) (W2.alloc (.cells #[.bool (Wd.ngb P.num), .slice Ay ny cy, .slice Ayd nyd cyd] 34)) (.agg #[.bool (Wd.ngb P.num), .slice Ay ny cy, .slice Ayd nyd cyd]) P) := Lib.hid ⟨Qw.up ⟨_, _, rfl, y, yd⟩ ((Up.refl W2).alloc _), LP⟩
    have HU := Lib.hid ((UW.trans UP).alloc (.cells #[.bool (Wd.ngb P.num), .slice Ay ny cy, .slice Ayd nyd cyd] 34))
    go_wp2_with (at_builtin; refine wl_append_q1 (kp_qk _) Tryz.underlying49 info_frac (w0 := W) rfl _ _ rfl rfl HA.out HU.out rfl (heap_alloc_new W2 _) HQ.out (by rw [HTL.out]; omega) ?_; intro V8 W8 MR8 K8 G8 UP8)
    rw [← HTK.out] at MR8
    go_roundw
    case rel => exact ⟨j + 1, by go_num, by omega, MR8, UP8⟩
    case measure => simp [intOf]; omega
  · obtain rfl : j = qs.length := by omega
    rw [List.take_length] at MR
    go_wp2
    go_ret
    exact ⟨_, rfl, MR, UW⟩
theorem PRow.at_ {k : Nat} {w0 w : World} {A : Option Addr} {n c : Nat} {qs : List Rat} (h : PRow k w0 w (.slice A n c) qs) {j : Nat} (hj : j < qs.length) :
 ∃ b o s B m f D n' f', A = some ⟨b, o, none⟩ ∧ b < w.heap.size ∧ w.cell? ⟨b, o + j * 3, none⟩ = some (.bool s) ∧ w.cell? ⟨b, o + j * 3 + 1, none⟩ = some (.slice B m f) ∧ w.cell? ⟨b, o + j * 3 + 2, none⟩ = some (.slice D n' f') ∧ Fr w (.agg #[.bool s, .slice B m f, .slice D n' f']) qs[j] k := h.fr.at_ (kp_fr k) hj
theorem sgn_eq_zero (q : Rat) : ((Wd.sgn q.num : Int) == 0) = decide (q = 0) := by
 rcases Wd.sgn_cases q.num with ⟨h, e⟩ | ⟨h, e⟩ | ⟨h, e⟩
 · rw [e, decide_eq_false (fun hh => by rw [hh] at h; simp at h)]; rfl
 · rw [e, decide_eq_true (Rat.num_eq_zero.1 h)]; rfl
 · rw [e, decide_eq_false (fun hh => by rw [hh] at h; simp at h)]; rfl
set_option maxRecDepth 100000 in
set_option maxHeartbeats 3200000 in
theorem poly_norm {v : Value} {qs : List Rat} {ka : Nat} {w : World} (h : Sq (Frk ka) w v qs) (hl : qs.length ≤ 100000000) (hka : ka ≤ 10000000) : Calls Tryz.prog 28 #[v] w (RetP (ka + 2) (Pq.nm qs) w) := by
 obtain ⟨A, cv, rfl⟩ := h.form
 have H := Lib.hid h
 clear h
 go_enter Tryz.func28, Tryz.ntmps28
 go_wp2_with fail
 ((with_reducible refine (frac_of (n := 1) (by omega) _).mono ?_))
 rintro e W1 ⟨V1, rfl, o, u1⟩
 go_wp2_with fail
 ((with_reducible refine (row_scale (o.fr (lq_int (by omega))) (H.out.up (kp_fr ka) u1) hl (by omega) (by omega)).mono ?_))
 rintro e W ⟨V2, rfl, R, u2⟩
 rw [show (((1 : Int) : Rat)) = 1 from rfl, Pq.sc_one] at R
 have R2 : PRow (ka + 2) w W V2 qs := (R.weaken u1).mono (by omega)
 have UP := u1.trans u2
 clear R u1 u2 o
 obtain ⟨A2, c2, rfl⟩ := R2.form
 have HR := Lib.hid R2
 clear R2
 go_wp2_with fail
 go_loopw [4] (fun s4 wr => ∃ n : Nat, s4 = .int .i64 n ∧ n ≤ qs.length ∧ Hid (∀ i, n ≤ i → qs.getD i 0 = 0) ∧ Up W wr) (fun s4 _ => (intOf s4).toNat)
 case atStart => exact ⟨qs.length, rfl, Nat.le_refl _, Lib.hid (fun i hi => by simp [List.getD_eq_getElem?_getD, List.getElem?_eq_none hi]), Up.refl W⟩
 case round =>
  obtain ⟨n, rfl, hn, HZ, UW⟩ := hrel
  cases n with
  | zero =>
    have HN : Hid (Pq.nm qs = qs.take 0) := Lib.hid (Pq.nm_take hn HZ.out (.inl rfl))
    have R3 := OwnQ.cut (HR.out.up UW) hn
    rw [← HN.out] at R3
    have RH := Lib.hid R3
    have kc : (0 : Int) ≤ (c2 : Int) := by
     have := HR.out.q
     obtain ⟨A', c', xs, e, h1, _⟩ := this
     cases e
     omega
    clear R3
    go_wp2
    go_ret
    exact ⟨_, rfl, RH.out, UP.trans UW⟩
  | succ m =>
    have hm : m < qs.length := by omega
    obtain ⟨b, o, s, B, m0, f, D, n', f', e0, hb, g1, g2, g3, FX⟩ := (HR.out.up UW).at_ hm
    subst e0
    have HD : Hid (qs.getD m 0 = qs[m]) := Lib.hid (Pq.getD_at hm)
    generalize qs[m] = q at *
    have k1 : (m : Int) < (qs.length : Int) := by omega
    have k0 : (0 : Int) ≤ (m : Int) := by omega
    have kk : ((m : Int)).toNat = m := by omega
    go_wp2_with fail
    ((with_reducible refine (frac_sign FX (by omega)).mono ?_))
    rintro e W3 ⟨rfl, u3⟩
    clear g1 g2 g3 FX
    by_cases hq : q = 0
    · have hs : ((Wd.sgn q.num : Int) == 0) = true := by rw [sgn_eq_zero]; exact decide_eq_true hq
      have HZ2 : Hid (∀ i, m ≤ i → qs.getD i 0 = 0) := Lib.hid (fun i hi => by
       rcases Nat.lt_or_ge m i with h | h
       · exact HZ.out i h
       · obtain rfl : i = m := by omega
         rw [HD.out, hq])
      clear hq
      go_wp2
      go_roundw
      case rel => exact ⟨m, by first | rfl | go_num | (congr 1; omega), by omega, HZ2, UW.trans u3⟩
      case measure => simp [intOf] <;> omega
    · have hs : ((Wd.sgn q.num : Int) == 0) = false := by rw [sgn_eq_zero]; exact decide_eq_false hq
      have HNQ : Hid (qs.getD m 0 ≠ 0) := Lib.hid (by rw [HD.out]; exact hq)
      clear hq
      have UW := UW.trans u3
      have HN : Hid (Pq.nm qs = qs.take (m + 1)) := Lib.hid (Pq.nm_take hn HZ.out (.inr (by simpa using HNQ.out)))
      have R3 := OwnQ.cut (HR.out.up UW) hn
      rw [← HN.out] at R3
      have RH := Lib.hid R3
      have kc : ((m + 1) : Int) ≤ (c2 : Int) := by
       have := HR.out.q
       obtain ⟨A', c', xs, e, h1, _⟩ := this
       cases e
       omega
      clear R3
      go_wp2
      go_ret
      exact ⟨_, rfl, RH.out, UP.trans UW⟩
end Go.Proofs.YtmmcffceeahemaaGreat
namespace Go.Proofs.YtmmcffceeahemaaGreat
open Go.RowKit
set_option maxRecDepth 100000 in
set_option maxHeartbeats 3200000 in
theorem poly_degree {v : Value} {qs : List Rat} {ka : Nat} {w : World} (h : Sq (Frk ka) w v qs) (hl : qs.length ≤ 100000000) (hka : ka ≤ 10000000) : Calls Tryz.prog 29 #[v] w (RetN (((Pq.nm qs).length : Int) - 1) w) := by
 obtain ⟨A, cv, rfl⟩ := h.form
 have H := Lib.hid h
 clear h
 go_enter Tryz.func29, Tryz.ntmps29
 go_wp2
 go_loopw [3] (fun s3 wr => ∃ n : Nat, s3 = .int .i64 ((n : Int) - 1) ∧ n ≤ qs.length ∧ Hid (∀ i, n ≤ i → qs.getD i 0 = 0) ∧ Up w wr) (fun s3 _ => (intOf s3 + 1).toNat)
 case atStart => exact ⟨qs.length, rfl, Nat.le_refl _, Lib.hid (fun i hi => by simp [List.getD_eq_getElem?_getD, List.getElem?_eq_none hi]), Up.refl w⟩
 case round =>
  obtain ⟨n, rfl, hn, HZ, UW⟩ := hrel
  cases n with
  | zero =>
    have HN : Hid (Pq.nm qs = []) := Lib.hid (by rw [Pq.nm_take hn HZ.out (.inl rfl)]; rfl)
    go_wp2
    go_ret
    exact ⟨by rw [HN.out]; rfl, UW⟩
  | succ m =>
    have hm : m < qs.length := by omega
    obtain ⟨b, o, s, B, m0, f, D, n', f', e0, hb, g1, g2, g3, FX⟩ := (H.out.up (kp_fr ka) UW).at_ (kp_fr ka) hm
    subst e0
    have HD : Hid (qs.getD m 0 = qs[m]) := Lib.hid (Pq.getD_at hm)
    generalize qs[m] = q at *
    have FX : Fr wr (.agg #[.bool s, .slice B m0 f, .slice D n' f']) q ka := FX
    have k1 : (m : Int) < (qs.length : Int) := by omega
    have k0 : (0 : Int) ≤ (m : Int) := by omega
    have kk : ((m : Int)).toNat = m := by omega
    go_wp2_with fail
    ((with_reducible refine (frac_sign FX (by omega)).mono ?_))
    rintro e W3 ⟨rfl, u3⟩
    clear g1 g2 g3 FX
    by_cases hq : q = 0
    · have hs : ((Wd.sgn q.num : Int) != 0) = false := by rw [bne, sgn_eq_zero, decide_eq_true hq]; rfl
      have HZ2 : Hid (∀ i, m ≤ i → qs.getD i 0 = 0) := Lib.hid (fun i hi => by
       rcases Nat.lt_or_ge m i with h | h
       · exact HZ.out i h
       · obtain rfl : i = m := by omega
         rw [HD.out, hq])
      clear hq
      go_wp2
      go_roundw
      case rel => exact ⟨m, by first | rfl | go_num | (congr 1; omega), by omega, HZ2, UW.trans u3⟩
      case measure => simp [intOf] <;> omega
    · have hs : ((Wd.sgn q.num : Int) != 0) = true := by rw [bne, sgn_eq_zero, decide_eq_false hq]; rfl
      have HN : Hid (((Pq.nm qs).length : Int) - 1 = (m : Int)) := Lib.hid (by
       rw [Pq.nm_take hn HZ.out (.inr (by rw [show m + 1 - 1 = m from rfl, HD.out]; exact hq)), List.length_take, Nat.min_eq_left hn]
       omega)
      clear hq
      go_wp2
      go_ret
      exact ⟨by rw [HN.out]; first | rfl | (congr 2; omega), UW.trans u3⟩
set_option maxRecDepth 100000 in
set_option maxHeartbeats 1600000 in
theorem poly_scale {vc v : Value} {c : Rat} {qs : List Rat} {kc ka : Nat} {w : World} (hc : Fr w vc c kc) (h : Sq (Frk ka) w v qs) (hl : qs.length ≤ 100000000) (hkc : kc ≤ 4000000) (hka : ka ≤ 4000000) : Calls Tryz.prog 41 #[vc, v] w (RetP (kc + ka + 2) (Pq.nm (Pq.sc c qs)) w) := by
 obtain ⟨x0, rfl, ⟨A1, n1, c1, e1⟩, ⟨D1, n2, c2, e2⟩⟩ := (kp_fr kc).form hc
 obtain ⟨s0, u0, d0⟩ := x0
 simp only at e1 e2
 subst e1 e2
 have FC : Fr w (.agg #[.bool s0, .slice A1 n1 c1, .slice D1 n2 c2]) c kc := hc
 clear hc
 obtain ⟨A, cv, rfl⟩ := h.form
 have UP : Up w (w.alloc (.cells #[.bool s0, .slice A1 n1 c1, .slice D1 n2 c2] 34)) := (Up.refl w).alloc _
 have b0 := Bx.new 34 w [.bool s0, .slice A1 n1 c1, .slice D1 n2 c2]
 show Calls Tryz.prog 41 #[.agg #[.bool s0, .slice A1 n1 c1, .slice D1 n2 c2], .slice A qs.length cv] w _
 go_enter Tryz.func41, Tryz.ntmps41
 go_wp2_with fail
 generalize (w.alloc (.cells #[.bool s0, .slice A1 n1 c1, .slice D1 n2 c2] 34)) = W at *
 replace FC := FC.up UP
 obtain ⟨b0_0, b0_1, b0_2⟩ := b0.c3
 have H := h.up (kp_fr ka) UP
 ((with_reducible refine (row_scale FC H hl (by omega) (by omega)).mono ?_))
 rintro e W1 ⟨V1, rfl, R, u1⟩
 have hlen : (Pq.sc c qs).length ≤ 100000000 := by simp [Pq.sc]; exact hl
 have RF := R.fr
 replace UP := UP.trans u1
 clear R
 obtain ⟨A2, c2', rfl⟩ := RF.form
 go_wp2_with fail
 ((with_reducible refine (poly_norm RF hlen (by omega)).mono ?_))
 rintro e W2 ⟨V2, rfl, R2, u2⟩
 go_wp2
 go_ret
 exact ⟨_, rfl, R2.weaken UP, UP.trans u2⟩
set_option maxRecDepth 100000 in
set_option maxHeartbeats 3200000 in
theorem row_same {v u : Value} {ps qs : List Rat} {k : Nat} {w : World} (h : Sq (Frk k) w v ps) (h' : Sq (Frk k) w u qs) (hl : ps.length ≤ 100000000) (hl' : qs.length ≤ 100000000) (hk : k ≤ 20000000) : Calls Tryz.prog 108 #[v, u] w fun e w' => e = .returned (.bool (decide (ps = qs))) ∧ Up w w' := by
 obtain ⟨A, c, rfl⟩ := h.form
 obtain ⟨B, d, rfl⟩ := h'.form
 have H := Lib.hid h
 have H' := Lib.hid h'
 clear h h'
 by_cases hn : ps.length = qs.length
 rotate_left
 · have kn : ((ps.length : Int) != (qs.length : Int)) = true := by simp; omega
   have HE : Hid (decide (ps = qs) = false) := Lib.hid (decide_eq_false (fun e => hn (by rw [e])))
   clear hn
   go_enter Tryz.func108, Tryz.ntmps108
   go_wp2
   go_ret
   exact ⟨by rw [HE.out]; rfl, Up.refl w⟩
 have kn : ((ps.length : Int) != (qs.length : Int)) = false := by simp; omega
 have HN := Lib.hid hn
 clear hn
 go_enter Tryz.func108, Tryz.ntmps108
 go_wp2
 go_loopw [13] (fun s13 wr => ∃ j : Nat, s13 = .int .i64 j ∧ j ≤ ps.length ∧ Hid (ps.take j = qs.take j) ∧ Up w wr) (fun s13 _ => ps.length - (intOf s13).toNat)
 case atStart => exact ⟨0, rfl, Nat.zero_le _, Lib.hid rfl, Up.refl w⟩
 case round =>
  obtain ⟨j, rfl, hj, HT, UW⟩ := hrel
  by_cases hlt : j < ps.length
  · have hlt' : j < qs.length := by rw [← HN.out]; exact hlt
    obtain ⟨b1, o1, s1, B1, x1, f1, D1, y1, z1, e1, hb1, g1, g2, g3, FX⟩ := (H.out.up (kp_fr k) UW).at_ (kp_fr k) hlt
    obtain ⟨b2, o2, s2, B2, x2, f2, D2, y2, z2, e2, hb2, g4, g5, g6, FY⟩ := (H'.out.up (kp_fr k) UW).at_ (kp_fr k) hlt'
    subst e1 e2
    have HS := Lib.hid fun (hh : ps[j] = qs[j]) => show ps.take (j + 1) = qs.take (j + 1) by rw [List.take_succ_eq_append_getElem hlt, List.take_succ_eq_append_getElem hlt', HT.out, hh]
    have HD := Lib.hid fun (hh : ps[j] ≠ qs[j]) => show ps ≠ qs by
     intro e
     subst e
     exact hh rfl
    generalize ps[j] = p at *
    generalize qs[j] = q at *
    have FX : Fr wr (.agg #[.bool s1, .slice B1 x1 f1, .slice D1 y1 z1]) p k := FX
    have FY : Fr wr (.agg #[.bool s2, .slice B2 x2 f2, .slice D2 y2 z2]) q k := FY
    have k1 : (j : Int) < (ps.length : Int) := by omega
    have k2 : (j : Int) < (qs.length : Int) := by omega
    have k0 : (0 : Int) ≤ (j : Int) := by omega
    have kk : ((j : Int)).toNat = j := by omega
    have UP := Up.refl wr
    have HOLD : Hid (∀ w', Up wr w' → w'.cell? ⟨b1, o1 + j * 3, none⟩ = some (.bool s1) ∧ w'.cell? ⟨b1, o1 + j * 3 + 1, none⟩ = some (.slice B1 x1 f1) ∧ w'.cell? ⟨b1, o1 + j * 3 + 2, none⟩ = some (.slice D1 y1 z1) ∧ w'.cell? ⟨b2, o2 + j * 3, none⟩ = some (.bool s2) ∧ w'.cell? ⟨b2, o2 + j * 3 + 1, none⟩ = some (.slice B2 x2 f2) ∧ w'.cell? ⟨b2, o2 + j * 3 + 2, none⟩ = some (.slice D2 y2 z2)) := Lib.hid (fun w' up => ⟨(up.cell (p := ⟨b1, o1 + j * 3, none⟩) hb1).trans g1, (up.cell (p := ⟨b1, o1 + j * 3 + 1, none⟩) hb1).trans g2, (up.cell (p := ⟨b1, o1 + j * 3 + 2, none⟩) hb1).trans g3, (up.cell (p := ⟨b2, o2 + j * 3, none⟩) hb2).trans g4, (up.cell (p := ⟨b2, o2 + j * 3 + 1, none⟩) hb2).trans g5, (up.cell (p := ⟨b2, o2 + j * 3 + 2, none⟩) hb2).trans g6⟩)
    clear g1 g2 g3 g4 g5 g6
    have UP : Up wr wr := Up.refl wr
    go_wp2_with fail
    revert FX FY UP; refine lg3 (Up.refl wr).drew ?_; intro FX FY UP
    go_region_held3 (fun w' => Up wr w' ∧ w'.cell? ⟨b1, o1 + j * 3, none⟩ = some (.bool s1) ∧ w'.cell? ⟨b1, o1 + j * 3 + 1, none⟩ = some (.slice B1 x1 f1) ∧ w'.cell? ⟨b1, o1 + j * 3 + 2, none⟩ = some (.slice D1 y1 z1) ∧ w'.cell? ⟨b2, o2 + j * 3, none⟩ = some (.bool s2) ∧ w'.cell? ⟨b2, o2 + j * 3 + 1, none⟩ = some (.slice B2 x2 f2) ∧ w'.cell? ⟨b2, o2 + j * 3 + 2, none⟩ = some (.slice D2 y2 z2))
     (first | exact ⟨UP, HOLD.out _ UP⟩ | exact ⟨(UP.alloc_drew _), HOLD.out _ (UP.alloc_drew _)⟩ | exact ⟨(UP.alloc2_drew _ _), HOLD.out _ (UP.alloc2_drew _ _)⟩ | go_keep)
     ((first
       | (go_at_call 89
          ((with_reducible refine (frac_same FX FY (by omega) (by omega)).mono ?_))
          rintro e W1 ⟨rfl, u1⟩
          revert FX FY UP; revert u1; refine lh3 ?_; intro FX FY UP)))
    all_goals
     by_cases hpq : p = q
     · have HT2 := Lib.hid (HS.out hpq)
       rw [show decide (p = q) = true from decide_eq_true hpq]
       clear hpq
       go_wp2
       go_roundw
       case rel => exact ⟨j + 1, by go_num, by omega, HT2, UW.trans UP⟩
       case measure => simp [intOf]; omega
     · have HE : Hid (decide (ps = qs) = false) := Lib.hid (decide_eq_false (HD.out hpq))
       rw [show decide (p = q) = false from decide_eq_false hpq]
       clear hpq
       go_wp2
       go_ret
       exact ⟨by rw [HE.out]; rfl, UW.trans UP⟩
  · obtain rfl : j = ps.length := by omega
    have HE : Hid (decide (ps = qs) = true) := Lib.hid (decide_eq_true (by
     have := HT.out
     rw [List.take_length, HN.out, List.take_length] at this
     exact this))
    go_wp2
    go_ret
    exact ⟨by rw [HE.out]; rfl, UW⟩
set_option maxRecDepth 100000 in
set_option maxHeartbeats 1600000 in
theorem poly_same {v u : Value} {ps qs : List Rat} {k : Nat} {w : World} (h : Sq (Frk k) w v ps) (h' : Sq (Frk k) w u qs) (hl : ps.length ≤ 100000000) (hl' : qs.length ≤ 100000000) (hk : k ≤ 10000000) : Calls Tryz.prog 30 #[v, u] w fun e w' => e = .returned (.bool (decide (Pq.nm ps = Pq.nm qs))) ∧ Up w w' := by
 have n1 : (Pq.nm ps).length ≤ 100000000 := Nat.le_trans (Pq.nm_len ps) hl
 have n2 : (Pq.nm qs).length ≤ 100000000 := Nat.le_trans (Pq.nm_len qs) hl'
 obtain ⟨A, c, rfl⟩ := h.form
 obtain ⟨B, d, rfl⟩ := h'.form
 go_enter Tryz.func30, Tryz.ntmps30
 go_wp2_with fail
 ((with_reducible refine (poly_norm h hl hk).mono ?_))
 rintro e W1 ⟨V1, rfl, R1, u1⟩
 have h2 := h'.up (kp_fr k) u1
 obtain ⟨A1, c1, rfl⟩ := R1.form
 go_wp2_with fail
 ((with_reducible refine (poly_norm h2 hl' hk).mono ?_))
 rintro e W2 ⟨V2, rfl, R2, u2⟩
 have R1 := R1.up u2
 have F1 := R1.fr
 have F2 := R2.fr
 obtain ⟨A2, c2, rfl⟩ := R2.form
 clear R1 R2 h2 h h'
 go_wp2_with fail
 ((with_reducible refine (row_same F1 F2 n1 n2 (by omega)).mono ?_))
 rintro e W3 ⟨rfl, u3⟩
 go_wp2
 go_ret
 exact ⟨rfl, (u1.trans u2).trans u3⟩
end Go.Proofs.YtmmcffceeahemaaGreat
