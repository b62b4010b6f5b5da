/-
  The walk of RatfSums.
-/
import Derived.Test.YtmmcffceeahemaaGreatZsRefRatf5
import Derived.Test.YtmmcffceeahemaaGreatZsRatf5
import Derived.Test.YtmmcffceeahemaaGreatZsRatfWorks
import Derived.Test.YtmmcffceeahemaaGreatZsRatfLet
import Derived.Deep.DeepCutAuto
import Derived.Test.YtmmcffceeahemaaGreatZsShort
set_option linter.unusedVariables false
set_option linter.unusedSimpArgs false
namespace Go.Proofs.YtmmcffceeahemaaGreat
open Go.RowKit
theorem law_is15s {v u v' u' : Value} {U D U' D' : List Rat} {j k : Nat} {w : World} (h : QSq j w v U') (h2 : QSq j w u D') (E : Hid (U' = U ∧ D' = D)) (hj : j ≤ k) (h' : QSq k w v' U) (h2' : QSq k w u' D) (hl : U.length ≤ 1000) (hl2 : D.length ≤ 1000) (hk : k ≤ 1000000) :
 Calls Tryz.prog 68 #[.agg #[v, u], .agg #[v', u']] w fun e w' => e = .returned (.bool true) ∧ Up w w' := by
 obtain ⟨rfl, rfl⟩ := E.out
 exact law_is15 (h.mono hj) (h2.mono hj) h' h2' hl hl2 hk
theorem pw_len {U D : List Rat} {e : Int} (lU : U.length ≤ 2 + 1) (lD : D.length ≤ 2 + 1) (he : e < -8 ∨ 8 < e ∨ -3 ≤ e ∧ e ≤ 3) : (Pq.pwU U D e).length ≤ 1000 ∧ (Pq.pwD U D e).length ≤ 1000 := by
 unfold Pq.pwU Pq.pwD
 by_cases hb : Pq.pwB U e = true
 · rw [if_pos hb, if_pos hb]
   have hn : e.natAbs ≤ 8 := by
    have := of_decide_eq_true hb
    omega
   have l1 := Pq.pwl_len lU e.natAbs
   have l2 := Pq.pwl_len lD e.natAbs
   have l3 := Pq.pwl_len (p := Pq.sc (Pq.ivc U D) D) (m := 2) (by rw [Pq.sc_len]; exact lD) e.natAbs
   have l4 := Pq.pwl_len (p := Pq.sc (Pq.ivc U D) U) (m := 2) (by rw [Pq.sc_len]; exact lU) e.natAbs
   split <;> omega
 · rw [if_neg hb, if_neg hb]
   simp
theorem ref_pow15e {v u : Value} {U D RU RD : List Rat} {t : Bool} {w : World} {e : Int} (HC : Hid (Pq.Can U D U D)) (h : QSq 48 w v U) (h2 : QSq 48 w u D) (lU : U.length ≤ 3) (lD : D.length ≤ 3) (LJ : Hid (Pq.Lp (U ++ D) 48)) (he : -9223372036854775808 ≤ e ∧ e ≤ 9223372036854775807) (hin : e < -8 ∨ 8 < e ∨ -3 ≤ e ∧ e ≤ 3)
 (HRT : Hid (Pq.pwB U e = t)) (HRU : Hid (Pq.pwU U D e = RU)) (HRD : Hid (Pq.pwD U D e = RD)) :
 Calls Tryz.prog 80 #[.agg #[v, u], .int .i64 e] w (RetGAB t 3000 RU RD w) := by
 rw [← HRT.out, ← HRU.out, ← HRD.out]
 exact ref_pow15 HC h h2 lU lD LJ he hin
set_option maxRecDepth 100000 in
set_option maxHeartbeats 25600000 in
theorem ratfSums_walk {V U V' U' : Value} {rs ts rs' ts' : List Raw} {e : Int} {w : World} (h : RSq w V rs) (h2 : RSq w U ts) (h' : RSq w V' rs') (h2' : RSq w U' ts') (he : -9223372036854775808 ≤ e ∧ e ≤ 9223372036854775807) :
 Calls Tryz.prog 8 #[.agg #[V, U], .agg #[V', U'], .int .i64 e] w fun x w' => x = .returned (.bool true) ∧ Up w w' := by
 obtain ⟨A1, c1, rfl⟩ := h.form
 obtain ⟨B1, d1, rfl⟩ := h2.form
 obtain ⟨A2, c2, rfl⟩ := h'.form
 obtain ⟨B2, d2, rfl⟩ := h2'.form
 have HHE := Lib.hid he
 have UP : Up w ((w.alloc (.cells #[.slice A1 rs.length c1, .slice B1 ts.length d1] 80)).alloc (.cells #[.slice A2 rs'.length c2, .slice B2 ts'.length d2] 80)) := ((Up.refl w).alloc _).alloc _
 obtain ⟨b0, b1⟩ := bx_two 80 80 w [.slice A1 rs.length c1, .slice B1 ts.length d1] [.slice A2 rs'.length c2, .slice B2 ts'.length d2]
 go_enter Tryz.func8, Tryz.ntmps8
 go_upto_region 1 with fail
 generalize ((w.alloc (.cells #[.slice A1 rs.length c1, .slice B1 ts.length d1] 80)).alloc (.cells #[.slice A2 rs'.length c2, .slice B2 ts'.length d2] 80)) = W at *
 revert h h2 h' h2'
 refine lg4 UP ?_
 intro h h2 h' h2'
 obtain ⟨b0_0, b0_1⟩ := b0.c2
 obtain ⟨b1_0, b1_1⟩ := b1.c2
 have UPo := Lib.hid UP
 clear UP
 have UP := Up.refl W
 go_cut [39] (fun t39 wx => ∃ b : Bool, t39 = .bool b ∧ Hid (b = false → ((rs.length ≤ 3 ∧ ∀ r ∈ rs, r.few 1) ∧ (ts.length ≤ 3 ∧ ∀ r ∈ ts, r.few 1)) ∧ ((rs'.length ≤ 3 ∧ ∀ r ∈ rs', r.few 1) ∧ (ts'.length ≤ 3 ∧ ∀ r ∈ ts', r.few 1)) ∧ (e < -8 ∨ 8 < e ∨ -3 ≤ e ∧ e ≤ 3)) ∧ Up W wx)
 case first =>
  obtain ⟨b0_0, b0_1⟩ := b0.c2
  obtain ⟨b1_0, b1_1⟩ := b1.c2
  go_wp2_with fail
  ((with_reducible refine (ref_long_31 h h2).mono ?_))
  rintro e W51 ⟨t51, rfl, ht51, u51⟩
  revert b0 b1 h h2 h' h2' UP b0_0 b0_1 b1_0 b1_1; revert u51; refine lh11 ?_; intro b0 b1 h h2 h' h2' UP b0_0 b0_1 b1_0 b1_1
  cases t51
  rotate_left
  · go_wp2_with fail
    go_meet
    exact ⟨true, rfl, Lib.hid (fun hh => by cases hh), UP⟩
  have g1 := Lib.hid (ht51.out rfl)
  clear ht51
  go_wp2_with fail
  ((with_reducible refine (ref_long_31 h' h2').mono ?_))
  rintro e W52 ⟨t52, rfl, ht52, u52⟩
  refine li11 u52 h h2 h' h2' b0 b1 UP b0_0 b0_1 b1_0 b1_1 ?_; clear h h2 h' h2' b0 b1 UP b0_0 b0_1 b1_0 b1_1 u52; intro h h2 h' h2' b0 b1 UP b0_0 b0_1 b1_0 b1_1
  cases t52
  rotate_left
  · go_wp2_with fail
    go_meet
    exact ⟨true, rfl, Lib.hid (fun hh => by cases hh), UP⟩
  have g2 := Lib.hid (ht52.out rfl)
  clear ht52
  by_cases k1 : e ≥ -8
  · by_cases k2 : e < -3
    · go_wp2_with fail
      go_meet
      exact ⟨true, rfl, Lib.hid (fun hh => by cases hh), UP⟩
    · by_cases k3 : e > 3
      · by_cases k4 : e ≤ 8
        · go_wp2_with fail
          go_meet
          exact ⟨true, rfl, Lib.hid (fun hh => by cases hh), UP⟩
        · have HHI : Hid (e < -8 ∨ 8 < e ∨ -3 ≤ e ∧ e ≤ 3) := Lib.hid (by omega)
          go_wp2_with fail
          go_meet
          exact ⟨false, by rw [decide_eq_false (show ¬ e < -3 by omega), decide_eq_false (show ¬ e ≤ 8 by omega)]; rfl, Lib.hid (fun _ => ⟨g1.out, g2.out, HHI.out⟩), UP⟩
      · have HHI : Hid (e < -8 ∨ 8 < e ∨ -3 ≤ e ∧ e ≤ 3) := Lib.hid (by omega)
        go_wp2_with fail
        go_meet
        exact ⟨false, by rw [decide_eq_false (show ¬ e < -3 by omega)], Lib.hid (fun _ => ⟨g1.out, g2.out, HHI.out⟩), UP⟩
  · have HHI : Hid (e < -8 ∨ 8 < e ∨ -3 ≤ e ∧ e ≤ 3) := Lib.hid (by omega)
    have k3 : ¬ e > 3 := by omega
    go_wp2_with fail
    go_meet
    exact ⟨false, rfl, Lib.hid (fun _ => ⟨g1.out, g2.out, HHI.out⟩), UP⟩
 case rest =>
  clear UP
  have UP := UPo.out
  obtain ⟨b, rfl, HB, UX⟩ := hcut
  refine li11 UX h h2 h' h2' b0 b1 UP b0_0 b0_1 b1_0 b1_1 ?_; clear h h2 h' h2' b0 b1 UP b0_0 b0_1 b1_0 b1_1 UX; intro h h2 h' h2' b0 b1 UP b0_0 b0_1 b1_0 b1_1
  obtain ⟨WA, hWA⟩ : ∃ W, W = wc := ⟨_, rfl⟩
  subst hWA
  cases b
  rotate_left
  · clear HB
    go_wp2_with fail
    refine (works15 _).mono ?_
    rintro e W99 ⟨rfl, u99⟩
    go_wp2
    go_ret
    exact ⟨rfl, UP.trans u99⟩
  obtain ⟨g1, g2, hin⟩ := HB.out rfl
  have HIN := Lib.hid hin
  clear hin HB
  obtain ⟨p, q, fp, fq, lp3, lq3, ep, eq, LPQ⟩ := fun_letters h h2 g1
  obtain ⟨p', q', fp', fq', lp3', lq3', ep', eq', LPQ'⟩ := fun_letters h' h2' g2
  clear h h2 h' h2' g1 g2 b0_0 b0_1 b1_0 b1_1
  rw [← ep, ← eq] at b0
  rw [← ep', ← eq'] at b1
  rw [← ep] at fp
  rw [← eq] at fq
  rw [← ep'] at fp'
  rw [← eq'] at fq'
  try rw [← ep, ← eq]
  try rw [← ep', ← eq']
  clear ep eq ep' eq'
  obtain ⟨P, D, HP, HD, lP, lD, LPD, DN⟩ := parts_letters p q (m := 3) lp3 lq3 (by omega) LPQ.out
  obtain ⟨P', D', HP', HD', lP', lD', LPD', DN'⟩ := parts_letters p' q' (m := 3) lp3' lq3' (by omega) LPQ'.out
  obtain ⟨b0_0, b0_1⟩ := b0.c2
  obtain ⟨b1_0, b1_1⟩ := b1.c2
  have HN0 : Hid (P'.length ≤ 3) := Lib.hid lP'
  go_wp2_with fail
  ((with_reducible refine (ref_norm15 (m := 3) (ka := 2) (j := 7) (K := 48) (DD := 244) (Z := 1024) fp fq lp3 lq3 (by omega) (by omega) LPQ.out (by omega) (by omega) (by omega) (by omega) (by omega) HP HD).mono ?_))
  rintro e W61 ⟨V61, U61, psa, qsa, rfl, a, ae, caa, lpa, lea, u61⟩
  obtain ⟨Aa, ca, rfl⟩ := a.form
  obtain ⟨Aae, cae, rfl⟩ := ae.form
  refine li11 u61 fp fq fp' fq' b0 b1 UP b0_0 b0_1 b1_0 b1_1 ?_; clear fp fq fp' fq' b0 b1 UP b0_0 b0_1 b1_0 b1_1 u61; intro fp fq fp' fq' b0 b1 UP b0_0 b0_1 b1_0 b1_1
  have b0_0a := cA b0_0
  have b0_1a := cA b0_1
  have b1_0a := cA b1_0
  have b1_1a := cA b1_1
  go_wp2_with fail
  clear b0_0a b0_1a b1_0a b1_1a
  have x7 := Bx.new 80 W61 [.slice Aa psa.length ca, .slice Aae qsa.length cae]
  have b0_lt_x7 := b0.lt
  have b1_lt_x7 := b1.lt
  have nu := ((Up.refl W61).alloc (.cells #[.slice Aa psa.length ca, .slice Aae qsa.length cae] 80))
  revert a ae fp fq fp' fq' b0 b1 UP; revert nu; refine lh9 ?_; intro a ae fp fq fp' fq' b0 b1 UP
  generalize (W61.alloc (.cells #[.slice Aa psa.length ca, .slice Aae qsa.length cae] 80)) = W62 at *
  clear b0_0 b0_1 b1_0 b1_1
  obtain ⟨b0_0, b0_1⟩ := b0.c2
  obtain ⟨b1_0, b1_1⟩ := b1.c2
  obtain ⟨x7_0, x7_1⟩ := x7.c2
  ((with_reducible refine (ref_norm15 (m := 3) (ka := 2) (j := 7) (K := 48) (DD := 244) (Z := 1024) fp' fq' lp3' lq3' (by omega) (by omega) LPQ'.out (by omega) (by omega) (by omega) (by omega) (by omega) HP' HD').mono ?_))
  rintro e W63 ⟨V63, U63, psb, qsb, rfl, b, be, cab, lpb, leb, u63⟩
  obtain ⟨Ab, cb, rfl⟩ := b.form
  obtain ⟨Abe, cbe, rfl⟩ := be.form
  revert x7 a ae fp fq fp' fq' b0 b1 UP b0_0 b0_1; refine lg12 u63 ?_; intro x7 a ae fp fq fp' fq' b0 b1 UP b0_0 b0_1; revert b1_0 b1_1 x7_0 x7_1; revert u63; refine lh4 ?_; intro b1_0 b1_1 x7_0 x7_1
  have b0_0a := cA b0_0
  have b0_1a := cA b0_1
  have b1_0a := cA b1_0
  have b1_1a := cA b1_1
  have x7_0a := cA x7_0
  have x7_1a := cA x7_1
  go_wp2_with fail
  clear b0_0a b0_1a b1_0a b1_1a x7_0a x7_1a
  have x8 := Bx.new 80 W63 [.slice Ab psb.length cb, .slice Abe qsb.length cbe]
  have b0_lt_x8 := b0.lt
  have b1_lt_x8 := b1.lt
  have x7_lt_x8 := x7.lt
  have nu := ((Up.refl W63).alloc (.cells #[.slice Ab psb.length cb, .slice Abe qsb.length cbe] 80))
  revert b be x7 a ae fp fq fp' fq' b0 b1 UP; revert nu; refine lh12 ?_; intro b be x7 a ae fp fq fp' fq' b0 b1 UP
  generalize (W63.alloc (.cells #[.slice Ab psb.length cb, .slice Abe qsb.length cbe] 80)) = W64 at *
  clear b0_0 b0_1 b1_0 b1_1 x7_0 x7_1
  obtain ⟨b0_0, b0_1⟩ := b0.c2
  obtain ⟨b1_0, b1_1⟩ := b1.c2
  obtain ⟨x7_0, x7_1⟩ := x7.c2
  obtain ⟨x8_0, x8_1⟩ := x8.c2
  ((with_reducible refine (law_to15 fp fq (by omega) (by omega)).mono ?_))
  rintro e W65 ⟨V65, U65, rfl, x, xe, u65⟩
  obtain ⟨Ax, cx, rfl⟩ := x.form
  obtain ⟨Axe, cxe, rfl⟩ := xe.form
  try simp only [List.length_cons, List.length_nil, Nat.zero_add] at xe
  revert x8 b be x7 a ae fp fq fp' fq' b0 b1; refine lg12 u65 ?_; intro x8 b be x7 a ae fp fq fp' fq' b0 b1; revert UP b0_0 b0_1 b1_0 b1_1 x7_0 x7_1 x8_0 x8_1; revert u65; refine lh9 ?_; intro UP b0_0 b0_1 b1_0 b1_1 x7_0 x7_1 x8_0 x8_1
  clear fp fq
  have b0_0a := cA b0_0
  have b0_1a := cA b0_1
  have b1_0a := cA b1_0
  have b1_1a := cA b1_1
  have x7_0a := cA x7_0
  have x7_1a := cA x7_1
  have x8_0a := cA x8_0
  have x8_1a := cA x8_1
  go_wp2_with fail
  clear b0_0a b0_1a b1_0a b1_1a x7_0a x7_1a x8_0a x8_1a
  have x9 := Bx.new 84 W65 [.slice Ax p.length cx, .slice Axe q.length cxe]
  have b0_lt_x9 := b0.lt
  have b1_lt_x9 := b1.lt
  have x7_lt_x9 := x7.lt
  have x8_lt_x9 := x8.lt
  have nu := ((Up.refl W65).alloc (.cells #[.slice Ax p.length cx, .slice Axe q.length cxe] 84))
  revert x xe x8 b be x7 a ae fp' fq' b0 b1; refine lg12 nu ?_; intro x xe x8 b be x7 a ae fp' fq' b0 b1; revert UP; revert nu; refine lh1 ?_; intro UP
  generalize (W65.alloc (.cells #[.slice Ax p.length cx, .slice Axe q.length cxe] 84)) = W66 at *
  clear b0_0 b0_1 b1_0 b1_1 x7_0 x7_1 x8_0 x8_1
  obtain ⟨b0_0, b0_1⟩ := b0.c2
  obtain ⟨b1_0, b1_1⟩ := b1.c2
  obtain ⟨x7_0, x7_1⟩ := x7.c2
  obtain ⟨x8_0, x8_1⟩ := x8.c2
  obtain ⟨x9_0, x9_1⟩ := x9.c2
  ((with_reducible refine (law_to15 fp' fq' (by omega) (by omega)).mono ?_))
  rintro e W67 ⟨V67, U67, rfl, y, ye, u67⟩
  obtain ⟨Ay, cy, rfl⟩ := y.form
  obtain ⟨Aye, cye, rfl⟩ := ye.form
  try simp only [List.length_cons, List.length_nil, Nat.zero_add] at ye
  revert x xe x8 b be x7 a ae fp' fq' b0 b1; refine lg12 u67 ?_; intro x xe x8 b be x7 a ae fp' fq' b0 b1; revert x9 UP b0_0 b0_1 b1_0 b1_1 x7_0 x7_1 x8_0 x8_1 x9_0 x9_1; revert u67; refine lh12 ?_; intro x9 UP b0_0 b0_1 b1_0 b1_1 x7_0 x7_1 x8_0 x8_1 x9_0 x9_1
  clear fp' fq'
  have b0_0a := cA b0_0
  have b0_1a := cA b0_1
  have b1_0a := cA b1_0
  have b1_1a := cA b1_1
  have x7_0a := cA x7_0
  have x7_1a := cA x7_1
  have x8_0a := cA x8_0
  have x8_1a := cA x8_1
  have x9_0a := cA x9_0
  have x9_1a := cA x9_1
  go_wp2_with fail
  clear b0_0a b0_1a b1_0a b1_1a x7_0a x7_1a x8_0a x8_1a x9_0a x9_1a
  have x10 := Bx.new 84 W67 [.slice Ay p'.length cy, .slice Aye q'.length cye]
  have b0_lt_x10 := b0.lt
  have b1_lt_x10 := b1.lt
  have x7_lt_x10 := x7.lt
  have x8_lt_x10 := x8.lt
  have x9_lt_x10 := x9.lt
  have nu := ((Up.refl W67).alloc (.cells #[.slice Ay p'.length cy, .slice Aye q'.length cye] 84))
  revert y ye x xe x8 b be x7 a ae b0 b1; refine lg12 nu ?_; intro y ye x xe x8 b be x7 a ae b0 b1; revert x9 UP; revert nu; refine lh2 ?_; intro x9 UP
  generalize (W67.alloc (.cells #[.slice Ay p'.length cy, .slice Aye q'.length cye] 84)) = W68 at *
  clear b0_0 b0_1 b1_0 b1_1 x7_0 x7_1 x8_0 x8_1 x9_0 x9_1
  obtain ⟨b0_0, b0_1⟩ := b0.c2
  obtain ⟨b1_0, b1_1⟩ := b1.c2
  obtain ⟨x7_0, x7_1⟩ := x7.c2
  obtain ⟨x8_0, x8_1⟩ := x8.c2
  obtain ⟨x9_0, x9_1⟩ := x9.c2
  obtain ⟨x10_0, x10_1⟩ := x10.c2
  obtain ⟨A0, HA0⟩ : ∃ r, Hid (Pq.pu (Pq.nm (Pq.mul P D')) (Pq.nm (Pq.mul D P')) = r) := ⟨_, Lib.hid rfl⟩
  obtain ⟨B0, HB0⟩ : ∃ r, Hid (Pq.pd (Pq.nm (Pq.mul P D')) (Pq.nm (Pq.mul D P')) = r) := ⟨_, Lib.hid rfl⟩
  obtain ⟨tq, HTQ⟩ : ∃ t, Hid ((!decide (Pq.nm (Pq.nm (Pq.mul D P')) = [])) = t) := ⟨_, Lib.hid rfl⟩
  obtain ⟨tz, HTZ⟩ : ∃ t, Hid (decide (psb = []) = t) := ⟨_, Lib.hid rfl⟩
  obtain ⟨P0, HP0⟩ : ∃ P, Hid (((0 : Int) : Rat) = P) := ⟨_, Lib.hid rfl⟩
  have LO : Wd.Lq P0 2 := by rw [← HP0.out]; exact lq_int (by omega)
  obtain ⟨R0, HR0⟩ : ∃ R, Hid (Pq.nm [P0] = R) := ⟨_, Lib.hid rfl⟩
  have HRN : Hid (R0 = []) := Lib.hid (by rw [← HR0.out, ← HP0.out]; exact Pq.nm_nil (fun x => by simp only [Pq.E]; grind))
  ((with_reducible refine (ratf_quop (k := 2) x.fs xe.fs lp3 lq3 (by omega) LPQ.out y.fs ye.fs lp3' lq3' (by omega) LPQ'.out 5 (by omega) (by omega) (K := 160) (by omega) (by omega) (by omega) (by omega) HP HD HP' HD' HA0 HB0 HTQ).mono ?_))
  rintro e W69 ⟨V69, U69, psc0, qsc0, rfl, c0, c0e, cac0, lpc0, lec0, u69⟩
  obtain ⟨Ac0, cc0, rfl⟩ := c0.form
  obtain ⟨Ac0e, cc0e, rfl⟩ := c0e.form
  revert y ye x xe x8 b be x7 a ae b0 b1; refine lg12 u69 ?_; intro y ye x xe x8 b be x7 a ae b0 b1; revert x10 x9 UP b0_0 b0_1 b1_0 b1_1 x7_0 x7_1 x8_0 x8_1 x9_0; refine lg12 u69 ?_; intro x10 x9 UP b0_0 b0_1 b1_0 b1_1 x7_0 x7_1 x8_0 x8_1 x9_0; revert x9_1 x10_0 x10_1; revert u69; refine lh3 ?_; intro x9_1 x10_0 x10_1
  have b0_0a := cA b0_0
  have b0_1a := cA b0_1
  have b1_0a := cA b1_0
  have b1_1a := cA b1_1
  have x7_0a := cA x7_0
  have x7_1a := cA x7_1
  have x8_0a := cA x8_0
  have x8_1a := cA x8_1
  have x9_0a := cA x9_0
  have x9_1a := cA x9_1
  have x10_0a := cA x10_0
  have x10_1a := cA x10_1
  go_wp2_with fail
  clear b0_0a b0_1a b1_0a b1_1a x7_0a x7_1a x8_0a x8_1a x9_0a x9_1a x10_0a x10_1a
  have x11 := Bx.new 84 W69 [.slice Ac0 psc0.length cc0, .slice Ac0e qsc0.length cc0e]
  have b0_lt_x11 := b0.lt
  have b1_lt_x11 := b1.lt
  have x7_lt_x11 := x7.lt
  have x8_lt_x11 := x8.lt
  have x9_lt_x11 := x9.lt
  have x10_lt_x11 := x10.lt
  have nu := ((Up.refl W69).alloc (.cells #[.slice Ac0 psc0.length cc0, .slice Ac0e qsc0.length cc0e] 84))
  revert c0 c0e y ye x xe b be a ae b0 b1; refine lg12 nu ?_; intro c0 c0e y ye x xe b be a ae b0 b1; revert x8 x7 x10 x9 UP; revert nu; refine lh5 ?_; intro x8 x7 x10 x9 UP
  generalize (W69.alloc (.cells #[.slice Ac0 psc0.length cc0, .slice Ac0e qsc0.length cc0e] 84)) = W70 at *
  clear b0_0 b0_1 b1_0 b1_1 x7_0 x7_1 x8_0 x8_1 x9_0 x9_1 x10_0 x10_1
  obtain ⟨b0_0, b0_1⟩ := b0.c2
  obtain ⟨b1_0, b1_1⟩ := b1.c2
  obtain ⟨x7_0, x7_1⟩ := x7.c2
  obtain ⟨x8_0, x8_1⟩ := x8.c2
  obtain ⟨x9_0, x9_1⟩ := x9.c2
  obtain ⟨x10_0, x10_1⟩ := x10.c2
  obtain ⟨x11_0, x11_1⟩ := x11.c2
  ((with_reducible refine (ref9_int (n := 0) (by omega) _).mono ?_))
  rintro e W71 ⟨V71, rfl, o, u71⟩
  revert c0 c0e y ye x xe b be a ae b0 b1; refine lg12 u71 ?_; intro c0 c0e y ye x xe b be a ae b0 b1; revert x11 x8 x7 x10 x9 UP b0_0 b0_1 b1_0 b1_1 x7_0 x7_1; refine lg12 u71 ?_; intro x11 x8 x7 x10 x9 UP b0_0 b0_1 b1_0 b1_1 x7_0 x7_1; revert x8_0 x8_1 x9_0 x9_1 x10_0 x10_1 x11_0 x11_1; revert u71; refine lh8 ?_; intro x8_0 x8_1 x9_0 x9_1 x10_0 x10_1 x11_0 x11_1
  rw [HP0.out] at o
  go_wp2_with fail
  ((with_reducible refine (ref_of15 o LO (by omega) (by omega) HR0).mono ?_))
  rintro e W72 ⟨V72, U72, rfl, i, ie, u72⟩
  obtain ⟨Ai, ci, rfl⟩ := i.form
  obtain ⟨Aie, cie, rfl⟩ := ie.form
  try simp only [List.length_cons, List.length_nil, Nat.zero_add] at ie
  revert o c0 c0e y ye x xe b be a ae b0; refine lg12 u72 ?_; intro o c0 c0e y ye x xe b be a ae b0; revert b1 x11 x8 x7 x10 x9 UP b0_0 b0_1 b1_0 b1_1 x7_0; refine lg12 u72 ?_; intro b1 x11 x8 x7 x10 x9 UP b0_0 b0_1 b1_0 b1_1 x7_0; revert x7_1 x8_0 x8_1 x9_0 x9_1 x10_0 x10_1 x11_0 x11_1; revert u72; refine lh9 ?_; intro x7_1 x8_0 x8_1 x9_0 x9_1 x10_0 x10_1 x11_0 x11_1
  clear o
  have HWZ : Hid (tz = true → psc0 = R0 ∧ qsc0 = [1]) := Lib.hid (fun hz => by
   have h1 : psb = [] := of_decide_eq_true (HTZ.out.trans hz)
   have h2 := (cab.out.zero DN'.out).1 h1
   have h3 : Pq.nm (Pq.nm (Pq.mul D P')) = [] := Pq.nm_nil fun x => by rw [Pq.E_nm, Pq.E_mul, Pq.E_of_nil h2, Rat.mul_zero]
   have h4 : A0 = [] := by rw [← HA0.out]; exact Pq.pu_nil h3
   have h5 : B0 = [1] := by rw [← HB0.out]; exact Pq.pd_nil h3
   have hc := cac0.out
   rw [h4, h5] at hc
   rw [HRN.out]
   exact hc.unique (by rw [Pq.nm_one]; simp) (Pq.can_zero rfl))
  have HWN : Hid (tz = false → psb ≠ [] ∧ ∀ us ds, Pq.Can (Pq.nm (Pq.mul psa qsb)) (Pq.nm (Pq.mul qsa psb)) us ds → us = psc0 ∧ ds = qsc0) := Lib.hid (fun hz => by
   have h1 : psb ≠ [] := of_decide_eq_false (HTZ.out.trans hz)
   have h2 : Pq.nm P' ≠ [] := fun e => h1 ((cab.out.zero DN'.out).2 e)
   have h3 := Pq.nmul_ne DN.out h2
   have h4 : A0 = Pq.nm (Pq.mul P D') := by rw [← HA0.out]; exact Pq.pu_of h3
   have h5 : B0 = Pq.nm (Pq.mul D P') := by rw [← HB0.out]; exact Pq.pd_of h3
   have hc := cac0.out
   rw [h4, h5] at hc
   refine ⟨h1, fun us ds hu => ?_⟩
   have hb : Pq.nm psb ≠ [] := by rw [Pq.nm_of_tr cab.out.tr]; exact h1
   exact hu.unique (Pq.nmul_ne caa.out.nd hb) (Pq.Can.over DN.out h2 caa.out cab.out hc))
  have HTQZ : Hid (tq = !tz) := Lib.hid (by
   rw [← HTQ.out, ← HTZ.out]
   congr 1
   refine decide_eq_decide.2 ((Iff.trans ?_ (cab.out.zero DN'.out).symm))
   constructor
   · intro h
     exact Classical.byContradiction fun hn => Pq.nmul_ne DN.out hn h
   · intro h
     exact Pq.nm_nil fun x => by rw [Pq.E_nm, Pq.E_mul, Pq.E_of_nil h, Rat.mul_zero])
  clear HTQ HA0 HB0 cac0
  have UPo2 := Lib.hid UP
  clear UP
  have UP := Up.refl W72
  have YI := i
  have YIE := ie
  have z7 := x7
  have z8 := x8
  have YA := Lib.hid a
  have YAE := Lib.hid ae
  have YB := Lib.hid b
  have YBE := Lib.hid be
  have lpb := lpb
  obtain ⟨z7_0, z7_1⟩ := z7.c2
  obtain ⟨z8_0, z8_1⟩ := z8.c2
  have z7_0a := cA z7_0
  have z7_1a := cA z7_1
  have z8_0a := cA z8_0
  have z8_1a := cA z8_1
  go_wp2_with fail
  clear z7_0a z7_1a z8_0a z8_1a
  have x13 := Bx.new 80 W72 [.slice Ai R0.length ci, .slice Aie 1 cie]
  have z7_lt_x13 := z7.lt
  have z7_ne_x13 : ¬ (W61.heap.size = W72.heap.size) := by omega
  have z7_en_x13 : ¬ (W72.heap.size = W61.heap.size) := by omega
  have z8_lt_x13 := z8.lt
  have z8_ne_x13 : ¬ (W63.heap.size = W72.heap.size) := by omega
  have z8_en_x13 : ¬ (W72.heap.size = W63.heap.size) := by omega
  have nu := ((Up.refl W72).alloc (.cells #[.slice Ai R0.length ci, .slice Aie 1 cie] 80))
  revert UP YI YIE z7 z8; revert nu; refine lh5 ?_; intro UP YI YIE z7 z8
  generalize (W72.alloc (.cells #[.slice Ai R0.length ci, .slice Aie 1 cie] 80)) = W81 at *
  clear z7_0 z7_1 z8_0 z8_1
  obtain ⟨z7_0, z7_1⟩ := z7.c2
  obtain ⟨z8_0, z8_1⟩ := z8.c2
  obtain ⟨x13_0, x13_1⟩ := x13.c2
  have x13_f0 := x13.free
  ((with_reducible refine (ref_zero15 (YB.out.up UP).q (YBE.out.up UP).q HTZ).mono ?_))
  rintro e W82 ⟨rfl, u82⟩
  revert x13 UP YI YIE z7 z8 z7_0 z7_1 z8_0 z8_1 x13_0 x13_1; refine lg12 u82 ?_; intro x13 UP YI YIE z7 z8 z7_0 z7_1 z8_0 z8_1 x13_0 x13_1
  replace x13_f0 := x13.free
  clear u82
  go_upto_if 59 with fail
  go_cut [] (fun wx => ∃ (Au Bu : Option Addr) (nu cu mu du : Nat), Bx 80 wx W72.heap.size [.slice Au nu cu, .slice Bu mu du] ∧ GRow 1000 wx (.slice Au nu cu) psc0 ∧ GRow 1000 wx (.slice Bu mu du) qsc0 ∧ Up W72 wx)
  case first =>
   cases tz
   · have HNZ := Lib.hid (HWN.out rfl)
     have HND := Lib.hid caa.out.nd
     have HNB : Hid (Pq.nm psb ≠ []) := Lib.hid (by rw [Pq.nm_of_tr cab.out.tr]; exact HNZ.out.1)
     clear YI YIE
     go_wp2_with fail
     ((with_reducible refine (ref_quo15 (k := 48) (YA.out.up UP).q (YAE.out.up UP).q lea.out.1 lea.out.2 (by omega) lpa.out (YB.out.up UP).q (YBE.out.up UP).q leb.out.1 leb.out.2 (by omega) lpb.out 5 (by omega) (by omega) (K := 980) (DD := 6866) (Z := 42176) (by omega) (by omega) (by omega) (by omega) (by omega) HND HNB).mono ?_))
     rintro e W83 ⟨V83, U83, psr, qsr, rfl, r, re, car, lpr, ler, u83⟩
     obtain ⟨Ar, cr, rfl⟩ := r.form
     obtain ⟨Are, cre, rfl⟩ := re.form
     refine li10 u83 z7 z8 x13 UP z7_0 z7_1 z8_0 z8_1 x13_0 x13_1 ?_; clear z7 z8 x13 UP z7_0 z7_1 z8_0 z8_1 x13_0 x13_1; intro z7 z8 x13 UP z7_0 z7_1 z8_0 z8_1 x13_0 x13_1
     replace x13_f0 := x13.free
     clear u83
     have HE := Lib.hid (HNZ.out.2 _ _ car.out)
     go_wp2_with fail
     have KW : Kw (W83) ((W83).setCell ⟨W72.heap.size, 0, none⟩ (.slice Ar psr.length cr)) := Kw.store (c := (.slice Ai R0.length ci)) x13 rfl trivial _
     replace r := r.stored x13 (by decide) KW
     replace re := re.stored x13 (by decide) KW
     replace z7 := z7.fr (W72.heap.size) 0 (.slice Ar psr.length cr)
     replace z8 := z8.fr (W72.heap.size) 0 (.slice Ar psr.length cr)
     replace x13 : Bx 80 ((W83).setCell ⟨W72.heap.size, 0, none⟩ (.slice Ar psr.length cr)) (W72.heap.size) [.slice Ar psr.length cr, .slice Aie 1 cie] := x13.set 0 (.slice Ar psr.length cr)
     replace UP := UP.setCell (p := ⟨W72.heap.size, 0, none⟩) (by dsimp only; omega) (.slice Ar psr.length cr)
     have KW : Kw (((W83).setCell ⟨W72.heap.size, 0, none⟩ (.slice Ar psr.length cr))) ((((W83).setCell ⟨W72.heap.size, 0, none⟩ (.slice Ar psr.length cr))).setCell ⟨W72.heap.size, 1, none⟩ (.slice Are qsr.length cre)) := Kw.store (c := (.slice Aie 1 cie)) x13 rfl trivial _
     replace r := r.stored x13 (by decide) KW
     replace re := re.stored x13 (by decide) KW
     replace z7 := z7.fr (W72.heap.size) 1 (.slice Are qsr.length cre)
     replace z8 := z8.fr (W72.heap.size) 1 (.slice Are qsr.length cre)
     replace x13 : Bx 80 ((((W83).setCell ⟨W72.heap.size, 0, none⟩ (.slice Ar psr.length cr))).setCell ⟨W72.heap.size, 1, none⟩ (.slice Are qsr.length cre)) (W72.heap.size) [.slice Ar psr.length cr, .slice Are qsr.length cre] := x13.set 1 (.slice Are qsr.length cre)
     replace UP := UP.setCell (p := ⟨W72.heap.size, 1, none⟩) (by dsimp only; omega) (.slice Are qsr.length cre)
     clear KW
     generalize ((((W83).setCell ⟨W72.heap.size, 0, none⟩ (.slice Ar psr.length cr))).setCell ⟨W72.heap.size, 1, none⟩ (.slice Are qsr.length cre)) = W84 at *
     clear z7_0 z7_1 z8_0 z8_1 x13_0 x13_1
     obtain ⟨z7_0, z7_1⟩ := z7.c2
     obtain ⟨z8_0, z8_1⟩ := z8.c2
     obtain ⟨x13_0, x13_1⟩ := x13.c2
     go_meet
     exact ⟨_, _, _, _, _, _, x13, by rw [← HE.out.1]; exact r.mono (by omega), by rw [← HE.out.2]; exact re.mono (by omega), UP⟩
   · have HE := Lib.hid (HWZ.out rfl)
     go_wp2_with fail
     go_meet
     exact ⟨_, _, _, _, _, _, x13, by rw [HE.out.1]; exact YI.mono (by omega), by rw [HE.out.2]; exact YIE.mono (by omega), UP⟩
  case rest =>
   clear UP YI YIE z7 z8 YA YAE YB YBE x13
   have UP := UPo2.out
   obtain ⟨Au, Bu, nu, cu, mu, du, x13, wu, wue, UX⟩ := hcut
   clear i ie
   revert c0 c0e y ye x xe b be a ae b0 b1; refine lg12 UX ?_; intro c0 c0e y ye x xe b be a ae b0 b1; revert x11 x8 x7 x10 x9 b0_0 b0_1 b1_0 b1_1 x7_0 x7_1 UP; refine lg12 UX ?_; intro x11 x8 x7 x10 x9 b0_0 b0_1 b1_0 b1_1 x7_0 x7_1 UP; revert x8_0 x8_1 x9_0 x9_1 x10_0 x10_1 x11_0 x11_1; revert UX; refine lh8 ?_; intro x8_0 x8_1 x9_0 x9_1 x10_0 x10_1 x11_0 x11_1
   obtain ⟨WB, hWB⟩ : ∃ W, W = wc := ⟨_, rfl⟩
   subst hWB
   clear b0_0 b0_1 b1_0 b1_1 x7_0 x7_1 x8_0 x8_1 x9_0 x9_1 x10_0 x10_1 x11_0 x11_1 b0 b1
   obtain ⟨x7_0, x7_1⟩ := x7.c2
   obtain ⟨x8_0, x8_1⟩ := x8.c2
   obtain ⟨x9_0, x9_1⟩ := x9.c2
   obtain ⟨x10_0, x10_1⟩ := x10.c2
   obtain ⟨x11_0, x11_1⟩ := x11.c2
   obtain ⟨x13_0, x13_1⟩ := x13.c2
   obtain ⟨tb, HRT⟩ : ∃ t, Hid (Pq.pwB psa e = t) := ⟨_, Lib.hid rfl⟩
   have HLR := Lib.hid (pw_len (U := psa) (D := qsa) lea.out.1 lea.out.2 HIN.out)
   obtain ⟨RU, HRU⟩ : ∃ t, Hid (Pq.pwU psa qsa e = t) := ⟨_, Lib.hid rfl⟩
   obtain ⟨RD, HRD⟩ : ∃ t, Hid (Pq.pwD psa qsa e = t) := ⟨_, Lib.hid rfl⟩
   rw [HRU.out, HRD.out] at HLR
   have HCS := Lib.hid caa.out.self
   go_wp2_with fail
   ((with_reducible refine (ratf_pow x.fs xe.fs lp3 lq3 LPQ HP HD DN caa lea.out.1 lea.out.2 lpa HHE.out HIN.out HRT HRU HRD).mono ?_))
   rintro e W101 ⟨V101, U101, rfl, p1, p1e, u101⟩
   obtain ⟨Ap1, cp1, rfl⟩ := p1.form
   obtain ⟨Ap1e, cp1e, rfl⟩ := p1e.form
   try simp only [List.length_cons, List.length_nil, Nat.zero_add] at p1e
   refine li12 u101 a ae b be x xe y ye c0 c0e wu wue ?_; clear a ae b be x xe y ye c0 c0e wu wue; intro a ae b be x xe y ye c0 c0e wu wue; refine li12 u101 x7 x8 x9 x10 x11 x13 UP x7_0 x7_1 x8_0 x8_1 x9_0 ?_; clear x7 x8 x9 x10 x11 x13 UP x7_0 x7_1 x8_0 x8_1 x9_0; intro x7 x8 x9 x10 x11 x13 UP x7_0 x7_1 x8_0 x8_1 x9_0; revert x9_1 x10_0 x10_1 x11_0 x11_1 x13_0 x13_1; revert u101; refine lh7 ?_; intro x9_1 x10_0 x10_1 x11_0 x11_1 x13_0 x13_1
   have x7_0a := cA x7_0
   have x7_1a := cA x7_1
   have x8_0a := cA x8_0
   have x8_1a := cA x8_1
   have x9_0a := cA x9_0
   have x9_1a := cA x9_1
   have x10_0a := cA x10_0
   have x10_1a := cA x10_1
   have x11_0a := cA x11_0
   have x11_1a := cA x11_1
   have x13_0a := cA x13_0
   have x13_1a := cA x13_1
   go_wp2_with fail
   clear x7_0a x7_1a x8_0a x8_1a x9_0a x9_1a x10_0a x10_1a x11_0a x11_1a x13_0a x13_1a
   have x14 := Bx.new 84 W101 [.slice Ap1 RU.length cp1, .slice Ap1e RD.length cp1e]
   have x7_lt_x14 := x7.lt
   have x8_lt_x14 := x8.lt
   have x9_lt_x14 := x9.lt
   have x10_lt_x14 := x10.lt
   have x11_lt_x14 := x11.lt
   have x13_lt_x14 := x13.lt
   have nu := ((Up.refl W101).alloc (.cells #[.slice Ap1 RU.length cp1, .slice Ap1e RD.length cp1e] 84))
   revert a ae b be x xe y ye c0 c0e wu wue; refine lg12 nu ?_; intro a ae b be x xe y ye c0 c0e wu wue; revert p1 p1e x7 x8 x9 x10 x11 x13 UP; revert nu; refine lh9 ?_; intro p1 p1e x7 x8 x9 x10 x11 x13 UP
   generalize (W101.alloc (.cells #[.slice Ap1 RU.length cp1, .slice Ap1e RD.length cp1e] 84)) = W102 at *
   clear x7_0 x7_1 x8_0 x8_1 x9_0 x9_1 x10_0 x10_1 x11_0 x11_1 x13_0 x13_1
   obtain ⟨x7_0, x7_1⟩ := x7.c2
   obtain ⟨x8_0, x8_1⟩ := x8.c2
   obtain ⟨x9_0, x9_1⟩ := x9.c2
   obtain ⟨x10_0, x10_1⟩ := x10.c2
   obtain ⟨x11_0, x11_1⟩ := x11.c2
   obtain ⟨x13_0, x13_1⟩ := x13.c2
   obtain ⟨x14_0, x14_1⟩ := x14.c2
   ((with_reducible refine (ref_pow15e HCS a.q ae.q lea.out.1 lea.out.2 lpa HHE.out HIN.out HRT HRU HRD).mono ?_))
   rintro e W103 ⟨V103, U103, rfl, p2, p2e, u103⟩
   obtain ⟨Ap2, cp2, rfl⟩ := p2.form
   obtain ⟨Ap2e, cp2e, rfl⟩ := p2e.form
   try simp only [List.length_cons, List.length_nil, Nat.zero_add] at p2e
   revert a ae b be x xe y ye c0 c0e wu wue; refine lg12 u103 ?_; intro a ae b be x xe y ye c0 c0e wu wue; revert x14 p1 p1e x7 x8 x9 x10 x11 x13 UP x7_0 x7_1; refine lg12 u103 ?_; intro x14 p1 p1e x7 x8 x9 x10 x11 x13 UP x7_0 x7_1; revert x8_0 x8_1 x9_0 x9_1 x10_0 x10_1 x11_0 x11_1 x13_0 x13_1 x14_0 x14_1; revert u103; refine lh12 ?_; intro x8_0 x8_1 x9_0 x9_1 x10_0 x10_1 x11_0 x11_1 x13_0 x13_1 x14_0 x14_1
   have x7_0a := cA x7_0
   have x7_1a := cA x7_1
   have x8_0a := cA x8_0
   have x8_1a := cA x8_1
   have x9_0a := cA x9_0
   have x9_1a := cA x9_1
   have x10_0a := cA x10_0
   have x10_1a := cA x10_1
   have x11_0a := cA x11_0
   have x11_1a := cA x11_1
   have x13_0a := cA x13_0
   have x13_1a := cA x13_1
   have x14_0a := cA x14_0
   have x14_1a := cA x14_1
   go_upto_region 13 with fail
   clear x7_0a x7_1a x8_0a x8_1a x9_0a x9_1a x10_0a x10_1a x11_0a x11_1a x13_0a x13_1a x14_0a x14_1a
   have x16 := Bx.new 80 W103 [.slice Ap2 RU.length cp2, .slice Ap2e RD.length cp2e]
   have x7_lt_x16 := x7.lt
   have x8_lt_x16 := x8.lt
   have x9_lt_x16 := x9.lt
   have x10_lt_x16 := x10.lt
   have x11_lt_x16 := x11.lt
   have x13_lt_x16 := x13.lt
   have x14_lt_x16 := x14.lt
   have nu := ((Up.refl W103).alloc (.cells #[.slice Ap2 RU.length cp2, .slice Ap2e RD.length cp2e] 80))
   revert a ae b be x xe y ye c0 c0e wu wue; refine lg12 nu ?_; intro a ae b be x xe y ye c0 c0e wu wue; revert p2 p2e x14 p1 p1e x7 x8 x9 x10 x11 x13 UP; revert nu; refine lh12 ?_; intro p2 p2e x14 p1 p1e x7 x8 x9 x10 x11 x13 UP
   generalize (W103.alloc (.cells #[.slice Ap2 RU.length cp2, .slice Ap2e RD.length cp2e] 80)) = W104 at *
   clear x7_0 x7_1 x8_0 x8_1 x9_0 x9_1 x10_0 x10_1 x11_0 x11_1 x13_0 x13_1 x14_0 x14_1
   obtain ⟨x7_0, x7_1⟩ := x7.c2
   obtain ⟨x8_0, x8_1⟩ := x8.c2
   obtain ⟨x9_0, x9_1⟩ := x9.c2
   obtain ⟨x10_0, x10_1⟩ := x10.c2
   obtain ⟨x11_0, x11_1⟩ := x11.c2
   obtain ⟨x13_0, x13_1⟩ := x13.c2
   obtain ⟨x14_0, x14_1⟩ := x14.c2
   obtain ⟨x16_0, x16_1⟩ := x16.c2
   have k5 : (tq == tz) = false := by rw [HTQZ.out]; cases tz <;> rfl
   have k6 : (tb != tb) = false := bne_self_eq_false tb
   have lr1 := HLR.out.1
   have lr2 := HLR.out.2
   have ls1 : psa.length ≤ 1000 := Nat.le_trans lea.out.1 (by omega)
   have ls2 : qsa.length ≤ 1000 := Nat.le_trans lea.out.2 (by omega)
   have HCNG := Lib.hid (Pq.Can.neg caa.out)
   have HCNB := Lib.hid (Pq.Can.neg cab.out)
   have lsn : (Pq.sc (-1) psa).length ≤ 1000 := by rw [Pq.sc_len]; exact ls1
   revert a ae b be x xe y ye c0 c0e wu wue; refine lg12 (Up.refl W104).drew ?_; intro a ae b be x xe y ye c0 c0e wu wue; revert x16 p2 p2e x14 p1 p1e x7 x8 x9 x10 x11 x13; refine lg12 (Up.refl W104).drew ?_; intro x16 p2 p2e x14 p1 p1e x7 x8 x9 x10 x11 x13; revert UP x7_0 x7_1 x8_0 x8_1 x9_0 x9_1 x10_0 x10_1 x11_0 x11_1 x13_0; refine lg12 (Up.refl W104).drew ?_; intro UP x7_0 x7_1 x8_0 x8_1 x9_0 x9_1 x10_0 x10_1 x11_0 x11_1 x13_0; revert x13_1 x14_0 x14_1 x16_0 x16_1; refine lg5 (Up.refl W104).drew ?_; intro x13_1 x14_0 x14_1 x16_0 x16_1
   refine wp_region_noPanic ?_
   refine wp_region_held_drew (S := fun w' => Up w w' ∧ w'.cell? ⟨W61.heap.size, 0, none⟩ = some (.slice Aa psa.length ca) ∧ w'.cell? ⟨W61.heap.size, 1, none⟩ = some (.slice Aae qsa.length cae) ∧ w'.cell? ⟨W63.heap.size, 0, none⟩ = some (.slice Ab psb.length cb) ∧ w'.cell? ⟨W63.heap.size, 1, none⟩ = some (.slice Abe qsb.length cbe) ∧ w'.cell? ⟨W65.heap.size, 0, none⟩ = some (.slice Ax p.length cx) ∧ w'.cell? ⟨W65.heap.size, 1, none⟩ = some (.slice Axe q.length cxe) ∧ w'.cell? ⟨W69.heap.size, 0, none⟩ = some (.slice Ac0 psc0.length cc0) ∧ w'.cell? ⟨W69.heap.size, 1, none⟩ = some (.slice Ac0e qsc0.length cc0e) ∧ w'.cell? ⟨W72.heap.size, 0, none⟩ = some (.slice Au nu cu) ∧ w'.cell? ⟨W72.heap.size, 1, none⟩ = some (.slice Bu mu du) ∧ w'.cell? ⟨W101.heap.size, 0, none⟩ = some (.slice Ap1 RU.length cp1) ∧ w'.cell? ⟨W101.heap.size, 1, none⟩ = some (.slice Ap1e RD.length cp1e) ∧ w'.cell? ⟨W103.heap.size, 0, none⟩ = some (.slice Ap2 RU.length cp2) ∧ w'.cell? ⟨W103.heap.size, 1, none⟩ = some (.slice Ap2e RD.length cp2e)) (by kernel_rfl) ?_ (fun hHeld => ?_)
   · with_reducible exact ⟨UP, x7_0, x7_1, x8_0, x8_1, x9_0, x9_1, x11_0, x11_1, x13_0, x13_1, x14_0, x14_1, x16_0, x16_1⟩
   refine tk 0 ?_
   try simp only [gs, Act.put]
   refine tk 1 ?_
   try simp only [gs, Act.put]
   refine rd 2 (fun K hK => ?_)
   go_simp
   (first
     | (go_at_call 68
        ((with_reducible refine (law_is15s c0.q c0e.q (Lib.hid ⟨rfl, rfl⟩) (show 160 ≤ 1000 by omega) wu.q wue.q (Nat.le_trans lec0.out.1 (by omega)) (Nat.le_trans lec0.out.2 (by omega)) (by omega)).mono ?_))
        rintro e W105 ⟨rfl, u105⟩
        revert a ae b be x xe y ye c0 c0e wu wue; refine lg12 u105 ?_; intro a ae b be x xe y ye c0 c0e wu wue; revert x16 p2 p2e x14 p1 p1e x7 x8 x9 x10 x11 x13; refine lg12 u105 ?_; intro x16 p2 p2e x14 p1 p1e x7 x8 x9 x10 x11 x13; revert UP x7_0 x7_1 x8_0 x8_1 x9_0 x9_1 x10_0 x10_1 x11_0 x11_1 x13_0; refine lg12 u105 ?_; intro UP x7_0 x7_1 x8_0 x8_1 x9_0 x9_1 x10_0 x10_1 x11_0 x11_1 x13_0; revert x13_1 x14_0 x14_1 x16_0 x16_1; refine lg5 u105 ?_; intro x13_1 x14_0 x14_1 x16_0 x16_1
        try (replace n1 := n1.up u105)
        try (replace n1e := n1e.up u105)
        try (replace n2 := n2.up u105)
        try (replace n2e := n2e.up u105)
        clear u105))
   try go_wp2_with fail
   try clear hHeld
   refine hK.out _ _ ?_ (fun hHeld => ?_)
   · with_reducible exact ⟨UP, x7_0, x7_1, x8_0, x8_1, x9_0, x9_1, x11_0, x11_1, x13_0, x13_1, x14_0, x14_1, x16_0, x16_1⟩
   clear hK K
   try simp only [gs, Act.put]
   refine tk 3 ?_
   try simp only [gs, Act.put]
   refine tk 4 ?_
   try simp only [gs, Act.put]
   refine tk 5 ?_
   try simp only [gs, Act.put]
   refine tk 6 ?_
   try simp only [gs, Act.put]
   refine rd 7 (fun K hK => ?_)
   go_simp
   (first
     | (go_at_call 70
        ((with_reducible refine (ref_zero15 b.q be.q HTZ).mono ?_))
        rintro e W106 ⟨rfl, u106⟩
        revert a ae b be x xe y ye c0 c0e wu wue; refine lg12 u106 ?_; intro a ae b be x xe y ye c0 c0e wu wue; revert x16 p2 p2e x14 p1 p1e x7 x8 x9 x10 x11 x13; refine lg12 u106 ?_; intro x16 p2 p2e x14 p1 p1e x7 x8 x9 x10 x11 x13; revert UP x7_0 x7_1 x8_0 x8_1 x9_0 x9_1 x10_0 x10_1 x11_0 x11_1 x13_0; refine lg12 u106 ?_; intro UP x7_0 x7_1 x8_0 x8_1 x9_0 x9_1 x10_0 x10_1 x11_0 x11_1 x13_0; revert x13_1 x14_0 x14_1 x16_0 x16_1; refine lg5 u106 ?_; intro x13_1 x14_0 x14_1 x16_0 x16_1
        try (replace n1 := n1.up u106)
        try (replace n1e := n1e.up u106)
        try (replace n2 := n2.up u106)
        try (replace n2e := n2e.up u106)
        clear u106))
   try go_wp2_with fail
   try clear hHeld
   refine hK.out _ _ ?_ (fun hHeld => ?_)
   · with_reducible exact ⟨UP, x7_0, x7_1, x8_0, x8_1, x9_0, x9_1, x11_0, x11_1, x13_0, x13_1, x14_0, x14_1, x16_0, x16_1⟩
   clear hK K
   try simp only [gs, Act.put]
   refine tk 8 ?_
   try simp only [gs, Act.put]
   refine tk 9 ?_
   try simp only [gs, Act.put]
   refine tk 10 ?_
   try simp only [gs, Act.put]
   refine tk 11 ?_
   try simp only [gs, Act.put]
   refine tk 12 ?_
   try simp only [gs, Act.put]
   refine rd 13 (fun K hK => ?_)
   go_simp
   (first
     | (go_at_call 68
        ((with_reducible refine (law_is15 p1.q p1e.q p2.q p2e.q lr1 lr2 (by omega)).mono ?_))
        rintro e W107 ⟨rfl, u107⟩
        revert a ae b be x xe y ye c0 c0e wu wue; refine lg12 u107 ?_; intro a ae b be x xe y ye c0 c0e wu wue; revert x16 p2 p2e x14 p1 p1e x7 x8 x9 x10 x11 x13; refine lg12 u107 ?_; intro x16 p2 p2e x14 p1 p1e x7 x8 x9 x10 x11 x13; revert UP x7_0 x7_1 x8_0 x8_1 x9_0 x9_1 x10_0 x10_1 x11_0 x11_1 x13_0; refine lg12 u107 ?_; intro UP x7_0 x7_1 x8_0 x8_1 x9_0 x9_1 x10_0 x10_1 x11_0 x11_1 x13_0; revert x13_1 x14_0 x14_1 x16_0 x16_1; refine lg5 u107 ?_; intro x13_1 x14_0 x14_1 x16_0 x16_1
        try (replace n1 := n1.up u107)
        try (replace n1e := n1e.up u107)
        try (replace n2 := n2.up u107)
        try (replace n2e := n2e.up u107)
        clear u107))
   try go_wp2_with fail
   try clear hHeld
   refine hK.out _ _ ?_ (fun hHeld => ?_)
   · with_reducible exact ⟨UP, x7_0, x7_1, x8_0, x8_1, x9_0, x9_1, x11_0, x11_1, x13_0, x13_1, x14_0, x14_1, x16_0, x16_1⟩
   clear hK K
   try simp only [gs, Act.put]
   refine tk 14 ?_
   try simp only [gs, Act.put]
   refine tk 15 ?_
   try simp only [gs, Act.put]
   refine tk 16 ?_
   try simp only [gs, Act.put]
   refine tk 17 ?_
   try simp only [gs, Act.put]
   refine tk 18 ?_
   try simp only [gs, Act.put]
   refine tk 19 ?_
   try simp only [gs, Act.put]
   refine tk 20 ?_
   try simp only [gs, Act.put]
   refine tk 21 ?_
   try simp only [gs, Act.put]
   refine tk 22 ?_
   try simp only [gs, Act.put]
   refine tk 24 ?_
   try simp only [gs, Act.put]
   refine rd 23 (fun K hK => ?_)
   go_simp
   (first
     | (go_at_call 81
        ((with_reducible refine (ratf_neg x.fs xe.fs lp3 lq3 (by omega) (by omega) LPQ.out (K := 48) (by omega) (by omega) (by omega) (by omega) HP HD).mono ?_))
        rintro e W108 ⟨V108, U108, psn1, qsn1, rfl, n1, n1e, can1, lpn1, len1, u108⟩
        obtain ⟨An1, cn1, rfl⟩ := n1.form
        obtain ⟨An1e, cn1e, rfl⟩ := n1e.form
        revert a ae b be x xe y ye c0 c0e wu wue; refine lg12 u108 ?_; intro a ae b be x xe y ye c0 c0e wu wue; revert x16 p2 p2e x14 p1 p1e x7 x8 x9 x10 x11 x13; refine lg12 u108 ?_; intro x16 p2 p2e x14 p1 p1e x7 x8 x9 x10 x11 x13; revert UP x7_0 x7_1 x8_0 x8_1 x9_0 x9_1 x10_0 x10_1 x11_0 x11_1 x13_0; refine lg12 u108 ?_; intro UP x7_0 x7_1 x8_0 x8_1 x9_0 x9_1 x10_0 x10_1 x11_0 x11_1 x13_0; revert x13_1 x14_0 x14_1 x16_0 x16_1; refine lg5 u108 ?_; intro x13_1 x14_0 x14_1 x16_0 x16_1
        try (replace n1 := n1.up u108)
        try (replace n1e := n1e.up u108)
        try (replace n2 := n2.up u108)
        try (replace n2e := n2e.up u108)
        clear u108))
   try go_wp2_with fail
   try clear hHeld
   refine hK.out _ _ ?_ (fun hHeld => ?_)
   · with_reducible exact ⟨UP, x7_0, x7_1, x8_0, x8_1, x9_0, x9_1, x11_0, x11_1, x13_0, x13_1, x14_0, x14_1, x16_0, x16_1⟩
   clear hK K
   try simp only [gs, Act.put]
   refine rd 25 (fun K hK => ?_)
   go_simp
   (first
     | (go_at_call 82
        ((with_reducible refine (ref_neg15 caa DN a.q ae.q lea.out.1 lea.out.2 (by omega) (by omega) lpa.out (K := 330) (DD := 1654) (Z := 6946) (by omega) (by omega) (by omega) (by omega) (by omega) (by omega)).mono ?_))
        rintro e W109 ⟨V109, U109, rfl, n2, n2e, u109⟩
        obtain ⟨An2, cn2, rfl⟩ := n2.form
        obtain ⟨An2e, cn2e, rfl⟩ := n2e.form
        try simp only [List.length_cons, List.length_nil, Nat.zero_add] at n2e
        revert a ae b be x xe y ye c0 c0e wu wue; refine lg12 u109 ?_; intro a ae b be x xe y ye c0 c0e wu wue; revert x16 p2 p2e x14 p1 p1e x7 x8 x9 x10 x11 x13; refine lg12 u109 ?_; intro x16 p2 p2e x14 p1 p1e x7 x8 x9 x10 x11 x13; revert UP x7_0 x7_1 x8_0 x8_1 x9_0 x9_1 x10_0 x10_1 x11_0 x11_1 x13_0; refine lg12 u109 ?_; intro UP x7_0 x7_1 x8_0 x8_1 x9_0 x9_1 x10_0 x10_1 x11_0 x11_1 x13_0; revert x13_1 x14_0 x14_1 x16_0 x16_1; refine lg5 u109 ?_; intro x13_1 x14_0 x14_1 x16_0 x16_1
        try (replace n1 := n1.up u109)
        try (replace n1e := n1e.up u109)
        try (replace n2 := n2.up u109)
        try (replace n2e := n2e.up u109)
        clear u109))
   try go_wp2_with fail
   try clear hHeld
   refine hK.out _ _ ?_ (fun hHeld => ?_)
   · with_reducible exact ⟨UP, x7_0, x7_1, x8_0, x8_1, x9_0, x9_1, x11_0, x11_1, x13_0, x13_1, x14_0, x14_1, x16_0, x16_1⟩
   clear hK K
   try simp only [gs, Act.put]
   refine rd 26 (fun K hK => ?_)
   go_simp
   (first
     | (go_at_call 68
        ((with_reducible refine (law_is15s n1.q n1e.q (Lib.hid (can1.out.unique DN.out HCNG.out)) (by omega) n2.q n2e.q lsn ls2 (by omega)).mono ?_))
        rintro e W110 ⟨rfl, u110⟩
        revert a ae b be x xe y ye c0 c0e wu wue; refine lg12 u110 ?_; intro a ae b be x xe y ye c0 c0e wu wue; revert x16 p2 p2e x14 p1 p1e x7 x8 x9 x10 x11 x13; refine lg12 u110 ?_; intro x16 p2 p2e x14 p1 p1e x7 x8 x9 x10 x11 x13; revert UP x7_0 x7_1 x8_0 x8_1 x9_0 x9_1 x10_0 x10_1 x11_0 x11_1 x13_0; refine lg12 u110 ?_; intro UP x7_0 x7_1 x8_0 x8_1 x9_0 x9_1 x10_0 x10_1 x11_0 x11_1 x13_0; revert x13_1 x14_0 x14_1 x16_0 x16_1; refine lg5 u110 ?_; intro x13_1 x14_0 x14_1 x16_0 x16_1
        try (replace n1 := n1.up u110)
        try (replace n1e := n1e.up u110)
        try (replace n2 := n2.up u110)
        try (replace n2e := n2e.up u110)
        clear u110))
   try go_wp2_with fail
   try clear hHeld
   refine hK.out _ _ ?_ (fun hHeld => ?_)
   · with_reducible exact ⟨UP, x7_0, x7_1, x8_0, x8_1, x9_0, x9_1, x11_0, x11_1, x13_0, x13_1, x14_0, x14_1, x16_0, x16_1⟩
   clear hK K
   try simp only [gs, Act.put]
   refine tk 27 ?_
   try simp only [gs, Act.put]
   refine tk 28 ?_
   try simp only [gs, Act.put]
   refine wpAnyH_done (by kernel_rfl) ?_ _
   refine NoPanic.normal ?_
   clear hHeld
   clear c0 c0e wu wue p1 p1e p2 p2e n1 n1e n2 n2e
   have HDD := Lib.hid (Pq.nmul_ne caa.out.nd cab.out.nd)
   have HND := Lib.hid caa.out.nd
   have HNB := Lib.hid cab.out.nd
   have LNB := Lib.hid (Pq.lp_neg lpb.out)
   have lbn : (Pq.sc (-1) psb).length ≤ 3 := by rw [Pq.sc_len]; exact leb.out.1
   go_wp2_with fail
   revert a ae b be x xe y ye x7 x8 x9 x10; refine lg12 (Up.refl W110).drew ?_; intro a ae b be x xe y ye x7 x8 x9 x10; revert x16 x14 x11 x13 UP x7_0 x7_1 x8_0 x8_1 x9_0 x9_1 x10_0; refine lg12 (Up.refl W110).drew ?_; intro x16 x14 x11 x13 UP x7_0 x7_1 x8_0 x8_1 x9_0 x9_1 x10_0; revert x10_1 x11_0 x11_1 x13_0 x13_1 x14_0 x14_1 x16_0 x16_1; refine lg9 (Up.refl W110).drew ?_; intro x10_1 x11_0 x11_1 x13_0 x13_1 x14_0 x14_1 x16_0 x16_1
   refine wp_region_noPanic ?_
   refine wp_region_held_drew (S := fun w' => Up w w' ∧ w'.cell? ⟨W61.heap.size, 0, none⟩ = some (.slice Aa psa.length ca) ∧ w'.cell? ⟨W61.heap.size, 1, none⟩ = some (.slice Aae qsa.length cae) ∧ w'.cell? ⟨W63.heap.size, 0, none⟩ = some (.slice Ab psb.length cb) ∧ w'.cell? ⟨W63.heap.size, 1, none⟩ = some (.slice Abe qsb.length cbe) ∧ w'.cell? ⟨W65.heap.size, 0, none⟩ = some (.slice Ax p.length cx) ∧ w'.cell? ⟨W65.heap.size, 1, none⟩ = some (.slice Axe q.length cxe) ∧ w'.cell? ⟨W67.heap.size, 0, none⟩ = some (.slice Ay p'.length cy) ∧ w'.cell? ⟨W67.heap.size, 1, none⟩ = some (.slice Aye q'.length cye)) (by kernel_rfl) ?_ (fun hHeld => ?_)
   · with_reducible exact ⟨UP, x7_0, x7_1, x8_0, x8_1, x9_0, x9_1, x10_0, x10_1⟩
   refine tk 0 ?_
   try simp only [gs, Act.put]
   refine tk 1 ?_
   try simp only [gs, Act.put]
   refine tk 3 ?_
   try simp only [gs, Act.put]
   refine tk 4 ?_
   try simp only [gs, Act.put]
   refine rd 2 (fun K hK => ?_)
   go_simp
   (first
     | (go_at_call 83
        ((with_reducible refine (ratf_add (k := 2) x.fs xe.fs lp3 lq3 (by omega) LPQ.out y.fs ye.fs lp3' lq3' (by omega) LPQ'.out 5 (by omega) (by omega) (K := 160) (by omega) (by omega) (by omega) (by omega) HP HD HP' HD').mono ?_))
        rintro e W111 ⟨V111, U111, pss1, qss1, rfl, s1, s1e, cas1, lps1, les1, u111⟩
        obtain ⟨As1, cs1, rfl⟩ := s1.form
        obtain ⟨As1e, cs1e, rfl⟩ := s1e.form
        revert a ae b be x xe y ye x7 x8 x9 x10; refine lg12 u111 ?_; intro a ae b be x xe y ye x7 x8 x9 x10; revert x16 x14 x11 x13 UP x7_0 x7_1 x8_0 x8_1 x9_0 x9_1 x10_0; refine lg12 u111 ?_; intro x16 x14 x11 x13 UP x7_0 x7_1 x8_0 x8_1 x9_0 x9_1 x10_0; revert x10_1 x11_0 x11_1 x13_0 x13_1 x14_0 x14_1 x16_0 x16_1; refine lg9 u111 ?_; intro x10_1 x11_0 x11_1 x13_0 x13_1 x14_0 x14_1 x16_0 x16_1
        try (replace s1 := s1.up u111)
        try (replace s1e := s1e.up u111)
        try (replace s2 := s2.up u111)
        try (replace s2e := s2e.up u111)
        try (replace d1 := d1.up u111)
        try (replace d1e := d1e.up u111)
        try (replace n3 := n3.up u111)
        try (replace n3e := n3e.up u111)
        try (replace d2 := d2.up u111)
        try (replace d2e := d2e.up u111)
        try (replace m1 := m1.up u111)
        try (replace m1e := m1e.up u111)
        try (replace m2 := m2.up u111)
        try (replace m2e := m2e.up u111)
        clear u111))
   try go_wp2_with fail
   try clear hHeld
   refine hK.out _ _ ?_ (fun hHeld => ?_)
   · with_reducible exact ⟨UP, x7_0, x7_1, x8_0, x8_1, x9_0, x9_1, x10_0, x10_1⟩
   clear hK K
   try simp only [gs, Act.put]
   refine rd 5 (fun K hK => ?_)
   go_simp
   (first
     | (go_at_call 84
        ((with_reducible refine (ref_add15 (k := 48) a.q ae.q lea.out.1 lea.out.2 (by omega) lpa.out b.q be.q leb.out.1 leb.out.2 (by omega) lpb.out 5 (by omega) (by omega) (K := 980) (DD := 6866) (Z := 42176) (by omega) (by omega) (by omega) (by omega) (by omega) HND HNB).mono ?_))
        rintro e W112 ⟨V112, U112, pss2, qss2, rfl, s2, s2e, cas2, lps2, les2, u112⟩
        obtain ⟨As2, cs2, rfl⟩ := s2.form
        obtain ⟨As2e, cs2e, rfl⟩ := s2e.form
        revert a ae b be x xe y ye x7 x8 x9 x10; refine lg12 u112 ?_; intro a ae b be x xe y ye x7 x8 x9 x10; revert x16 x14 x11 x13 UP x7_0 x7_1 x8_0 x8_1 x9_0 x9_1 x10_0; refine lg12 u112 ?_; intro x16 x14 x11 x13 UP x7_0 x7_1 x8_0 x8_1 x9_0 x9_1 x10_0; revert x10_1 x11_0 x11_1 x13_0 x13_1 x14_0 x14_1 x16_0 x16_1; refine lg9 u112 ?_; intro x10_1 x11_0 x11_1 x13_0 x13_1 x14_0 x14_1 x16_0 x16_1
        try (replace s1 := s1.up u112)
        try (replace s1e := s1e.up u112)
        try (replace s2 := s2.up u112)
        try (replace s2e := s2e.up u112)
        try (replace d1 := d1.up u112)
        try (replace d1e := d1e.up u112)
        try (replace n3 := n3.up u112)
        try (replace n3e := n3e.up u112)
        try (replace d2 := d2.up u112)
        try (replace d2e := d2e.up u112)
        try (replace m1 := m1.up u112)
        try (replace m1e := m1e.up u112)
        try (replace m2 := m2.up u112)
        try (replace m2e := m2e.up u112)
        clear u112))
   try go_wp2_with fail
   try clear hHeld
   refine hK.out _ _ ?_ (fun hHeld => ?_)
   · with_reducible exact ⟨UP, x7_0, x7_1, x8_0, x8_1, x9_0, x9_1, x10_0, x10_1⟩
   clear hK K
   try simp only [gs, Act.put]
   refine rd 6 (fun K hK => ?_)
   go_simp
   (first
     | (go_at_call 68
        ((with_reducible refine (law_is15s s1.q s1e.q (Lib.hid ((Pq.Can.sum DN.out DN'.out caa.out cab.out cas1.out).unique HDD.out cas2.out)) (show 160 ≤ 980 by omega) s2.q s2e.q (Nat.le_trans les2.out.1 (by omega)) (Nat.le_trans les2.out.2 (by omega)) (by omega)).mono ?_))
        rintro e W113 ⟨rfl, u113⟩
        revert a ae b be x xe y ye x7 x8 x9 x10; refine lg12 u113 ?_; intro a ae b be x xe y ye x7 x8 x9 x10; revert x16 x14 x11 x13 UP x7_0 x7_1 x8_0 x8_1 x9_0 x9_1 x10_0; refine lg12 u113 ?_; intro x16 x14 x11 x13 UP x7_0 x7_1 x8_0 x8_1 x9_0 x9_1 x10_0; revert x10_1 x11_0 x11_1 x13_0 x13_1 x14_0 x14_1 x16_0 x16_1; refine lg9 u113 ?_; intro x10_1 x11_0 x11_1 x13_0 x13_1 x14_0 x14_1 x16_0 x16_1
        try (replace s1 := s1.up u113)
        try (replace s1e := s1e.up u113)
        try (replace s2 := s2.up u113)
        try (replace s2e := s2e.up u113)
        try (replace d1 := d1.up u113)
        try (replace d1e := d1e.up u113)
        try (replace n3 := n3.up u113)
        try (replace n3e := n3e.up u113)
        try (replace d2 := d2.up u113)
        try (replace d2e := d2e.up u113)
        try (replace m1 := m1.up u113)
        try (replace m1e := m1e.up u113)
        try (replace m2 := m2.up u113)
        try (replace m2e := m2e.up u113)
        clear u113))
   try go_wp2_with fail
   try clear hHeld
   refine hK.out _ _ ?_ (fun hHeld => ?_)
   · with_reducible exact ⟨UP, x7_0, x7_1, x8_0, x8_1, x9_0, x9_1, x10_0, x10_1⟩
   clear hK K
   try simp only [gs, Act.put]
   refine tk 7 ?_
   try simp only [gs, Act.put]
   refine tk 8 ?_
   try simp only [gs, Act.put]
   refine tk 9 ?_
   try simp only [gs, Act.put]
   refine tk 11 ?_
   try simp only [gs, Act.put]
   refine tk 12 ?_
   try simp only [gs, Act.put]
   refine rd 10 (fun K hK => ?_)
   go_simp
   (first
     | (go_at_call 85
        ((with_reducible refine (ratf_sub (k := 2) x.fs xe.fs lp3 lq3 (by omega) LPQ.out y.fs ye.fs lp3' lq3' (by omega) LPQ'.out 5 (by omega) (by omega) (K' := 48) (KS := 570) (by omega) (by omega) (by omega) (by omega) (by omega) (by omega) HP HD HP' HD').mono ?_))
        rintro e W114 ⟨V114, U114, psd1, qsd1, rfl, d1, d1e, cad1, lpd1, led1, u114⟩
        obtain ⟨Ad1, cd1, rfl⟩ := d1.form
        obtain ⟨Ad1e, cd1e, rfl⟩ := d1e.form
        revert a ae b be x xe y ye x7 x8 x9 x10; refine lg12 u114 ?_; intro a ae b be x xe y ye x7 x8 x9 x10; revert x16 x14 x11 x13 UP x7_0 x7_1 x8_0 x8_1 x9_0 x9_1 x10_0; refine lg12 u114 ?_; intro x16 x14 x11 x13 UP x7_0 x7_1 x8_0 x8_1 x9_0 x9_1 x10_0; revert x10_1 x11_0 x11_1 x13_0 x13_1 x14_0 x14_1 x16_0 x16_1; refine lg9 u114 ?_; intro x10_1 x11_0 x11_1 x13_0 x13_1 x14_0 x14_1 x16_0 x16_1
        try (replace s1 := s1.up u114)
        try (replace s1e := s1e.up u114)
        try (replace s2 := s2.up u114)
        try (replace s2e := s2e.up u114)
        try (replace d1 := d1.up u114)
        try (replace d1e := d1e.up u114)
        try (replace n3 := n3.up u114)
        try (replace n3e := n3e.up u114)
        try (replace d2 := d2.up u114)
        try (replace d2e := d2e.up u114)
        try (replace m1 := m1.up u114)
        try (replace m1e := m1e.up u114)
        try (replace m2 := m2.up u114)
        try (replace m2e := m2e.up u114)
        clear u114))
   try go_wp2_with fail
   try clear hHeld
   refine hK.out _ _ ?_ (fun hHeld => ?_)
   · with_reducible exact ⟨UP, x7_0, x7_1, x8_0, x8_1, x9_0, x9_1, x10_0, x10_1⟩
   clear hK K
   try simp only [gs, Act.put]
   refine rd 13 (fun K hK => ?_)
   go_simp
   (first
     | (go_at_call 82
        ((with_reducible refine (ref_neg15 cab DN' b.q be.q leb.out.1 leb.out.2 (by omega) (by omega) lpb.out (K := 330) (DD := 1654) (Z := 6946) (by omega) (by omega) (by omega) (by omega) (by omega) (by omega)).mono ?_))
        rintro e W115 ⟨V115, U115, rfl, n3, n3e, u115⟩
        obtain ⟨An3, cn3, rfl⟩ := n3.form
        obtain ⟨An3e, cn3e, rfl⟩ := n3e.form
        try simp only [List.length_cons, List.length_nil, Nat.zero_add] at n3e
        revert a ae b be x xe y ye x7 x8 x9 x10; refine lg12 u115 ?_; intro a ae b be x xe y ye x7 x8 x9 x10; revert x16 x14 x11 x13 UP x7_0 x7_1 x8_0 x8_1 x9_0 x9_1 x10_0; refine lg12 u115 ?_; intro x16 x14 x11 x13 UP x7_0 x7_1 x8_0 x8_1 x9_0 x9_1 x10_0; revert x10_1 x11_0 x11_1 x13_0 x13_1 x14_0 x14_1 x16_0 x16_1; refine lg9 u115 ?_; intro x10_1 x11_0 x11_1 x13_0 x13_1 x14_0 x14_1 x16_0 x16_1
        try (replace s1 := s1.up u115)
        try (replace s1e := s1e.up u115)
        try (replace s2 := s2.up u115)
        try (replace s2e := s2e.up u115)
        try (replace d1 := d1.up u115)
        try (replace d1e := d1e.up u115)
        try (replace n3 := n3.up u115)
        try (replace n3e := n3e.up u115)
        try (replace d2 := d2.up u115)
        try (replace d2e := d2e.up u115)
        try (replace m1 := m1.up u115)
        try (replace m1e := m1e.up u115)
        try (replace m2 := m2.up u115)
        try (replace m2e := m2e.up u115)
        clear u115))
   try go_wp2_with fail
   try clear hHeld
   refine hK.out _ _ ?_ (fun hHeld => ?_)
   · with_reducible exact ⟨UP, x7_0, x7_1, x8_0, x8_1, x9_0, x9_1, x10_0, x10_1⟩
   clear hK K
   try simp only [gs, Act.put]
   refine rd 14 (fun K hK => ?_)
   go_simp
   (first
     | (go_at_call 84
        ((with_reducible refine (ref_add15 (k := 48) a.q ae.q lea.out.1 lea.out.2 (by omega) lpa.out n3.q n3e.q lbn leb.out.2 (by omega) LNB.out 5 (by omega) (by omega) (K := 980) (DD := 6866) (Z := 42176) (by omega) (by omega) (by omega) (by omega) (by omega) HND HNB).mono ?_))
        rintro e W116 ⟨V116, U116, psd2, qsd2, rfl, d2, d2e, cad2, lpd2, led2, u116⟩
        obtain ⟨Ad2, cd2, rfl⟩ := d2.form
        obtain ⟨Ad2e, cd2e, rfl⟩ := d2e.form
        revert a ae b be x xe y ye x7 x8 x9 x10; refine lg12 u116 ?_; intro a ae b be x xe y ye x7 x8 x9 x10; revert x16 x14 x11 x13 UP x7_0 x7_1 x8_0 x8_1 x9_0 x9_1 x10_0; refine lg12 u116 ?_; intro x16 x14 x11 x13 UP x7_0 x7_1 x8_0 x8_1 x9_0 x9_1 x10_0; revert x10_1 x11_0 x11_1 x13_0 x13_1 x14_0 x14_1 x16_0 x16_1; refine lg9 u116 ?_; intro x10_1 x11_0 x11_1 x13_0 x13_1 x14_0 x14_1 x16_0 x16_1
        try (replace s1 := s1.up u116)
        try (replace s1e := s1e.up u116)
        try (replace s2 := s2.up u116)
        try (replace s2e := s2e.up u116)
        try (replace d1 := d1.up u116)
        try (replace d1e := d1e.up u116)
        try (replace n3 := n3.up u116)
        try (replace n3e := n3e.up u116)
        try (replace d2 := d2.up u116)
        try (replace d2e := d2e.up u116)
        try (replace m1 := m1.up u116)
        try (replace m1e := m1e.up u116)
        try (replace m2 := m2.up u116)
        try (replace m2e := m2e.up u116)
        clear u116))
   try go_wp2_with fail
   try clear hHeld
   refine hK.out _ _ ?_ (fun hHeld => ?_)
   · with_reducible exact ⟨UP, x7_0, x7_1, x8_0, x8_1, x9_0, x9_1, x10_0, x10_1⟩
   clear hK K
   try simp only [gs, Act.put]
   refine rd 15 (fun K hK => ?_)
   go_simp
   (first
     | (go_at_call 68
        ((with_reducible refine (law_is15s d1.q d1e.q (Lib.hid ((Pq.Can.sum DN.out DN'.out caa.out HCNB.out cad1.out).unique HDD.out cad2.out)) (show 570 ≤ 980 by omega) d2.q d2e.q (Nat.le_trans led2.out.1 (by omega)) (Nat.le_trans led2.out.2 (by omega)) (by omega)).mono ?_))
        rintro e W117 ⟨rfl, u117⟩
        revert a ae b be x xe y ye x7 x8 x9 x10; refine lg12 u117 ?_; intro a ae b be x xe y ye x7 x8 x9 x10; revert x16 x14 x11 x13 UP x7_0 x7_1 x8_0 x8_1 x9_0 x9_1 x10_0; refine lg12 u117 ?_; intro x16 x14 x11 x13 UP x7_0 x7_1 x8_0 x8_1 x9_0 x9_1 x10_0; revert x10_1 x11_0 x11_1 x13_0 x13_1 x14_0 x14_1 x16_0 x16_1; refine lg9 u117 ?_; intro x10_1 x11_0 x11_1 x13_0 x13_1 x14_0 x14_1 x16_0 x16_1
        try (replace s1 := s1.up u117)
        try (replace s1e := s1e.up u117)
        try (replace s2 := s2.up u117)
        try (replace s2e := s2e.up u117)
        try (replace d1 := d1.up u117)
        try (replace d1e := d1e.up u117)
        try (replace n3 := n3.up u117)
        try (replace n3e := n3e.up u117)
        try (replace d2 := d2.up u117)
        try (replace d2e := d2e.up u117)
        try (replace m1 := m1.up u117)
        try (replace m1e := m1e.up u117)
        try (replace m2 := m2.up u117)
        try (replace m2e := m2e.up u117)
        clear u117))
   try go_wp2_with fail
   try clear hHeld
   refine hK.out _ _ ?_ (fun hHeld => ?_)
   · with_reducible exact ⟨UP, x7_0, x7_1, x8_0, x8_1, x9_0, x9_1, x10_0, x10_1⟩
   clear hK K
   try simp only [gs, Act.put]
   refine tk 16 ?_
   try simp only [gs, Act.put]
   refine tk 17 ?_
   try simp only [gs, Act.put]
   refine tk 18 ?_
   try simp only [gs, Act.put]
   refine tk 19 ?_
   try simp only [gs, Act.put]
   refine tk 21 ?_
   try simp only [gs, Act.put]
   refine tk 22 ?_
   try simp only [gs, Act.put]
   refine rd 20 (fun K hK => ?_)
   go_simp
   (first
     | (go_at_call 86
        ((with_reducible refine (ratf_mul (k := 2) x.fs xe.fs lp3 lq3 (by omega) LPQ.out y.fs ye.fs lp3' lq3' (by omega) LPQ'.out 5 (by omega) (by omega) (K := 160) (by omega) (by omega) (by omega) (by omega) HP HD HP' HD').mono ?_))
        rintro e W118 ⟨V118, U118, psm1, qsm1, rfl, m1, m1e, cam1, lpm1, lem1, u118⟩
        obtain ⟨Am1, cm1, rfl⟩ := m1.form
        obtain ⟨Am1e, cm1e, rfl⟩ := m1e.form
        revert a ae b be x xe y ye x7 x8 x9 x10; refine lg12 u118 ?_; intro a ae b be x xe y ye x7 x8 x9 x10; revert x16 x14 x11 x13 UP x7_0 x7_1 x8_0 x8_1 x9_0 x9_1 x10_0; refine lg12 u118 ?_; intro x16 x14 x11 x13 UP x7_0 x7_1 x8_0 x8_1 x9_0 x9_1 x10_0; revert x10_1 x11_0 x11_1 x13_0 x13_1 x14_0 x14_1 x16_0 x16_1; refine lg9 u118 ?_; intro x10_1 x11_0 x11_1 x13_0 x13_1 x14_0 x14_1 x16_0 x16_1
        try (replace s1 := s1.up u118)
        try (replace s1e := s1e.up u118)
        try (replace s2 := s2.up u118)
        try (replace s2e := s2e.up u118)
        try (replace d1 := d1.up u118)
        try (replace d1e := d1e.up u118)
        try (replace n3 := n3.up u118)
        try (replace n3e := n3e.up u118)
        try (replace d2 := d2.up u118)
        try (replace d2e := d2e.up u118)
        try (replace m1 := m1.up u118)
        try (replace m1e := m1e.up u118)
        try (replace m2 := m2.up u118)
        try (replace m2e := m2e.up u118)
        clear u118))
   try go_wp2_with fail
   try clear hHeld
   refine hK.out _ _ ?_ (fun hHeld => ?_)
   · with_reducible exact ⟨UP, x7_0, x7_1, x8_0, x8_1, x9_0, x9_1, x10_0, x10_1⟩
   clear hK K
   try simp only [gs, Act.put]
   refine rd 23 (fun K hK => ?_)
   go_simp
   (first
     | (go_at_call 87
        ((with_reducible refine (ref_mul15 (k := 48) a.q ae.q lea.out.1 lea.out.2 (by omega) lpa.out b.q be.q leb.out.1 leb.out.2 (by omega) lpb.out 5 (by omega) (by omega) (K := 980) (DD := 6866) (Z := 42176) (by omega) (by omega) (by omega) (by omega) (by omega) HND HNB).mono ?_))
        rintro e W119 ⟨V119, U119, psm2, qsm2, rfl, m2, m2e, cam2, lpm2, lem2, u119⟩
        obtain ⟨Am2, cm2, rfl⟩ := m2.form
        obtain ⟨Am2e, cm2e, rfl⟩ := m2e.form
        revert a ae b be x xe y ye x7 x8 x9 x10; refine lg12 u119 ?_; intro a ae b be x xe y ye x7 x8 x9 x10; revert x16 x14 x11 x13 UP x7_0 x7_1 x8_0 x8_1 x9_0 x9_1 x10_0; refine lg12 u119 ?_; intro x16 x14 x11 x13 UP x7_0 x7_1 x8_0 x8_1 x9_0 x9_1 x10_0; revert x10_1 x11_0 x11_1 x13_0 x13_1 x14_0 x14_1 x16_0 x16_1; refine lg9 u119 ?_; intro x10_1 x11_0 x11_1 x13_0 x13_1 x14_0 x14_1 x16_0 x16_1
        try (replace s1 := s1.up u119)
        try (replace s1e := s1e.up u119)
        try (replace s2 := s2.up u119)
        try (replace s2e := s2e.up u119)
        try (replace d1 := d1.up u119)
        try (replace d1e := d1e.up u119)
        try (replace n3 := n3.up u119)
        try (replace n3e := n3e.up u119)
        try (replace d2 := d2.up u119)
        try (replace d2e := d2e.up u119)
        try (replace m1 := m1.up u119)
        try (replace m1e := m1e.up u119)
        try (replace m2 := m2.up u119)
        try (replace m2e := m2e.up u119)
        clear u119))
   try go_wp2_with fail
   try clear hHeld
   refine hK.out _ _ ?_ (fun hHeld => ?_)
   · with_reducible exact ⟨UP, x7_0, x7_1, x8_0, x8_1, x9_0, x9_1, x10_0, x10_1⟩
   clear hK K
   try simp only [gs, Act.put]
   refine rd 24 (fun K hK => ?_)
   go_simp
   (first
     | (go_at_call 68
        ((with_reducible refine (law_is15s m1.q m1e.q (Lib.hid ((Pq.Can.prod DN.out DN'.out caa.out cab.out cam1.out).unique HDD.out cam2.out)) (show 160 ≤ 980 by omega) m2.q m2e.q (Nat.le_trans lem2.out.1 (by omega)) (Nat.le_trans lem2.out.2 (by omega)) (by omega)).mono ?_))
        rintro e W120 ⟨rfl, u120⟩
        revert a ae b be x xe y ye x7 x8 x9 x10; refine lg12 u120 ?_; intro a ae b be x xe y ye x7 x8 x9 x10; revert x16 x14 x11 x13 UP x7_0 x7_1 x8_0 x8_1 x9_0 x9_1 x10_0; refine lg12 u120 ?_; intro x16 x14 x11 x13 UP x7_0 x7_1 x8_0 x8_1 x9_0 x9_1 x10_0; revert x10_1 x11_0 x11_1 x13_0 x13_1 x14_0 x14_1 x16_0 x16_1; refine lg9 u120 ?_; intro x10_1 x11_0 x11_1 x13_0 x13_1 x14_0 x14_1 x16_0 x16_1
        try (replace s1 := s1.up u120)
        try (replace s1e := s1e.up u120)
        try (replace s2 := s2.up u120)
        try (replace s2e := s2e.up u120)
        try (replace d1 := d1.up u120)
        try (replace d1e := d1e.up u120)
        try (replace n3 := n3.up u120)
        try (replace n3e := n3e.up u120)
        try (replace d2 := d2.up u120)
        try (replace d2e := d2e.up u120)
        try (replace m1 := m1.up u120)
        try (replace m1e := m1e.up u120)
        try (replace m2 := m2.up u120)
        try (replace m2e := m2e.up u120)
        clear u120))
   try go_wp2_with fail
   try clear hHeld
   refine hK.out _ _ ?_ (fun hHeld => ?_)
   · with_reducible exact ⟨UP, x7_0, x7_1, x8_0, x8_1, x9_0, x9_1, x10_0, x10_1⟩
   clear hK K
   try simp only [gs, Act.put]
   refine tk 25 ?_
   try simp only [gs, Act.put]
   refine tk 26 ?_
   try simp only [gs, Act.put]
   refine rd 27 (fun K hK => ?_)
   go_simp
   (first
     | (go_at_call 60
        ((with_reducible refine (works15 _).mono ?_))
        rintro e W121 ⟨rfl, u121⟩
        revert a ae b be x xe y ye x7 x8 x9 x10; refine lg12 u121 ?_; intro a ae b be x xe y ye x7 x8 x9 x10; revert x16 x14 x11 x13 UP x7_0 x7_1 x8_0 x8_1 x9_0 x9_1 x10_0; refine lg12 u121 ?_; intro x16 x14 x11 x13 UP x7_0 x7_1 x8_0 x8_1 x9_0 x9_1 x10_0; revert x10_1 x11_0 x11_1 x13_0 x13_1 x14_0 x14_1 x16_0 x16_1; refine lg9 u121 ?_; intro x10_1 x11_0 x11_1 x13_0 x13_1 x14_0 x14_1 x16_0 x16_1
        try (replace s1 := s1.up u121)
        try (replace s1e := s1e.up u121)
        try (replace s2 := s2.up u121)
        try (replace s2e := s2e.up u121)
        try (replace d1 := d1.up u121)
        try (replace d1e := d1e.up u121)
        try (replace n3 := n3.up u121)
        try (replace n3e := n3e.up u121)
        try (replace d2 := d2.up u121)
        try (replace d2e := d2e.up u121)
        try (replace m1 := m1.up u121)
        try (replace m1e := m1e.up u121)
        try (replace m2 := m2.up u121)
        try (replace m2e := m2e.up u121)
        clear u121))
   try go_wp2_with fail
   try clear hHeld
   refine hK.out _ _ ?_ (fun hHeld => ?_)
   · with_reducible exact ⟨UP, x7_0, x7_1, x8_0, x8_1, x9_0, x9_1, x10_0, x10_1⟩
   clear hK K
   try simp only [gs, Act.put]
   refine tk 28 ?_
   try simp only [gs, Act.put]
   refine rd 29 (fun K hK => ?_)
   go_simp
   skip
   try go_wp2_with fail
   try clear hHeld
   refine hK.out _ _ ?_ (fun hHeld => ?_)
   · with_reducible exact ⟨UP, x7_0, x7_1, x8_0, x8_1, x9_0, x9_1, x10_0, x10_1⟩
   clear hK K
   try simp only [gs, Act.put]
   refine wpAnyH_done (by kernel_rfl) ?_ _
   refine NoPanic.normal ?_
   clear hHeld
   go_wp2_with fail
   go_ret
   exact ⟨rfl, UP⟩
end Go.Proofs.YtmmcffceeahemaaGreat
