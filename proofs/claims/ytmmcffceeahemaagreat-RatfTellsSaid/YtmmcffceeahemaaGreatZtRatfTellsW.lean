/-
  The walk of RatfTells.
-/
import Derived.Test.YtmmcffceeahemaaGreatZtRatfNew
import Derived.Test.YtmmcffceeahemaaGreatZtRatfWorks
import Derived.Deep.DeepCutAuto
import Derived.Test.YtmmcffceeahemaaGreatZtShort
set_option linter.unusedVariables false
set_option linter.unusedSimpArgs false
namespace Pq
theorem can_same {P D P' D' U E0 V F : List Rat} (hD : nm D ≠ []) (hD' : nm D' ≠ []) (h : Can P D U E0) (h' : Can P' D' V F) : decide (nm (nm (mul P D')) = nm (nm (mul P' D))) = decide (U = V ∧ E0 = F) := by
 refine decide_eq_decide.2 ⟨fun e => ?_, fun e => ?_⟩
 · refine (h.turn hD fun x => ?_).unique hD' h'
   have := congrArg (fun r => E r x) e
   simp only [E_nm, E_mul] at this
   exact this
 · obtain ⟨rfl, rfl⟩ := e
   rw [nm_nm, nm_nm]
   refine nm_ext fun x => mul_cancel (r := E0) (fun x => ?_) h.nd x
   have e1 := h.eq x
   have e2 := h'.eq x
   rw [E_mul, E_mul]
   grind
end Pq
namespace Go.Proofs.YtmmcffceeahemaaGreat
open Go.RowKit
theorem fun_letters4 {V U : Value} {rs ts : List Raw} {w : World} (h : RSq w V rs) (h2 : RSq w U ts) (g : (rs.length ≤ 4 ∧ ∀ r ∈ rs, r.few 1) ∧ (ts.length ≤ 4 ∧ ∀ r ∈ ts, r.few 1)) :
 ∃ p q : List Rat, FSq 2 w V p ∧ FSq 2 w U q ∧ p.length ≤ 4 ∧ q.length ≤ 4 ∧ p.length = rs.length ∧ q.length = ts.length ∧ Hid (Pq.Lp (p ++ q) 9) := by
 obtain ⟨⟨a1, a2⟩, b1, b2⟩ := g
 have f1 := h.fs a2 (by omega)
 have f2 := h2.fs b2 (by omega)
 have e1 : (rs.map Raw.val).length = rs.length := List.length_map _
 have e2 : (ts.map Raw.val).length = ts.length := List.length_map _
 exact ⟨_, _, f1.mono (by omega), f2.mono (by omega), by omega, by omega, e1, e2, Lib.hid ((Pq.Lp.few (k := 1) (fun x hx => by
  rcases List.mem_append.1 hx with hx | hx
  · exact f1.lq x hx
  · exact f2.lq x hx)).mono (by rw [List.length_append]; omega))⟩
theorem ref_long_41 {v u : Value} {rs ts : List Raw} {w : World} (h : RSq w v rs) (h2 : RSq w u ts) :
 Calls Tryz.prog 59 #[.agg #[v, u], .int .i64 4, .int .i64 1] w fun e w' => ∃ t, e = .returned (.bool t) ∧ Hid (t = false → (rs.length ≤ 4 ∧ ∀ r ∈ rs, r.few 1) ∧ (ts.length ≤ 4 ∧ ∀ r ∈ ts, r.few 1)) ∧ Up w w' := ref_long15 4 1 rfl rfl h h2 (by omega) (by omega)
theorem field_down15 (w : World) (A B : Option Addr) (n c m d : Nat) : (Instr.field 80 (.agg #[.slice A n c, .slice B m d]) 1).run Tryz.prog w = .ok (.slice B m d) w := by kernel_rfl
theorem law_is15e {v u v' u' : Value} {U D U' D' : List Rat} {j k : Nat} {w : World} (h : QSq j w v U') (h2 : QSq j w u D') (E : Hid (U' = U ∧ D' = D)) (hj : j ≤ k) (h' : QSq k w v' U) (h2' : QSq k w u' D) (hl : U.length ≤ 1000) (hl2 : D.length ≤ 1000) (hk : k ≤ 1000000) :
 Calls Tryz.prog 68 #[.agg #[v, u], .agg #[v', u']] w fun e w' => e = .returned (.bool true) ∧ Up w w' := by
 obtain ⟨rfl, rfl⟩ := E.out
 exact law_is15 (h.mono hj) (h2.mono hj) h' h2' hl hl2 hk
set_option maxRecDepth 100000 in
set_option maxHeartbeats 25600000 in
theorem ratfTells_walk {V U V' U' X Y : Value} {rs ts rs' ts' : List Raw} {s : Bool} {l m : List Nat} {w : World} (h : RSq w V rs) (h2 : RSq w U ts) (h' : RSq w V' rs') (h2' : RSq w U' ts') (hl : Ws w X l) (hm : Ws w Y m) :
 Calls Tryz.prog 7 #[.agg #[V, U], .agg #[V', U'], .agg #[.bool s, X, Y]] w fun e w' => e = .returned (.bool true) ∧ Up w w' := by
 obtain ⟨A1, c1, rfl⟩ := h.form
 obtain ⟨B1, d1, rfl⟩ := h2.form
 obtain ⟨A2, c2, rfl⟩ := h'.form
 obtain ⟨B2, d2, rfl⟩ := h2'.form
 obtain ⟨A3, c3, rfl⟩ := hl.form
 obtain ⟨B3, d3, rfl⟩ := hm.form
 have UP : Up w (((w.alloc (.cells #[.slice A1 rs.length c1, .slice B1 ts.length d1] 80)).alloc (.cells #[.slice A2 rs'.length c2, .slice B2 ts'.length d2] 80)).alloc (.cells #[.bool s, .slice A3 l.length c3, .slice B3 m.length d3] 24)) := (((Up.refl w).alloc _).alloc _).alloc _
 obtain ⟨b0, b1, b2⟩ := bx_three 80 80 24 w [.slice A1 rs.length c1, .slice B1 ts.length d1] [.slice A2 rs'.length c2, .slice B2 ts'.length d2] [.bool s, .slice A3 l.length c3, .slice B3 m.length d3]
 go_enter Tryz.func7, Tryz.ntmps7
 go_wp2_with fail
 generalize (((w.alloc (.cells #[.slice A1 rs.length c1, .slice B1 ts.length d1] 80)).alloc (.cells #[.slice A2 rs'.length c2, .slice B2 ts'.length d2] 80)).alloc (.cells #[.bool s, .slice A3 l.length c3, .slice B3 m.length d3] 24)) = W at *
 revert h h2 h' h2' hl hm
 refine lg6 UP ?_
 intro h h2 h' h2' hl hm
 obtain ⟨b0_0, b0_1⟩ := b0.c2
 obtain ⟨b1_0, b1_1⟩ := b1.c2
 obtain ⟨b2_0, b2_1, b2_2⟩ := b2.c3
 go_wp2_with fail
 ((with_reducible refine (ref_long_41 h h2).mono ?_))
 rintro e W1 ⟨t1, rfl, ht1, u1⟩
 revert UP b0 b1 b2 h h2 h' h2' hl hm b0_0 b0_1
 refine lg12 u1 ?_
 intro UP b0 b1 b2 h h2 h' h2' hl hm b0_0 b0_1
 revert b1_0 b1_1 b2_0 b2_1 b2_2
 revert u1
 refine lh5 ?_
 intro b1_0 b1_1 b2_0 b2_1 b2_2
 cases t1
 rotate_left
 · skip
   go_wp2_with fail
   refine (works15 _).mono ?_
   rintro e W99 ⟨rfl, u99⟩
   go_wp2
   go_ret
   exact ⟨rfl, UP.trans u99⟩
 have g1 := Lib.hid (ht1.out rfl)
 clear ht1
 go_wp2_with fail
 ((with_reducible refine (ref_long_41 h' h2').mono ?_))
 rintro e W2 ⟨t2, rfl, ht2, u2⟩
 refine li12 u2 h h2 h' h2' hl hm b0 b1 b2 UP b0_0 b0_1 ?_
 clear h h2 h' h2' hl hm b0 b1 b2 UP b0_0 b0_1
 intro h h2 h' h2' hl hm b0 b1 b2 UP b0_0 b0_1
 refine li5 u2 b1_0 b1_1 b2_0 b2_1 b2_2 ?_
 clear b1_0 b1_1 b2_0 b2_1 b2_2 u2
 intro b1_0 b1_1 b2_0 b2_1 b2_2
 cases t2
 rotate_left
 · skip
   go_wp2_with fail
   refine (works15 _).mono ?_
   rintro e W99 ⟨rfl, u99⟩
   go_wp2
   go_ret
   exact ⟨rfl, UP.trans u99⟩
 have g2 := Lib.hid (ht2.out rfl)
 clear ht2
 go_wp2_with fail
 ((with_reducible refine (ref_long9h (l := l) (m := m) 1 (K := 1) rfl (by omega)).mono ?_))
 rintro e W3 ⟨t3, rfl, ht3, u3⟩
 refine li12 u3 h h2 h' h2' hl hm b0 b1 b2 UP b0_0 b0_1 ?_
 clear h h2 h' h2' hl hm b0 b1 b2 UP b0_0 b0_1
 intro h h2 h' h2' hl hm b0 b1 b2 UP b0_0 b0_1
 refine li5 u3 b1_0 b1_1 b2_0 b2_1 b2_2 ?_
 clear b1_0 b1_1 b2_0 b2_1 b2_2 u3
 intro b1_0 b1_1 b2_0 b2_1 b2_2
 cases t3
 rotate_left
 · skip
   go_wp2_with fail
   refine (works15 _).mono ?_
   rintro e W99 ⟨rfl, u99⟩
   go_wp2
   go_ret
   exact ⟨rfl, UP.trans u99⟩
 have g3 := Lib.hid (ht3.out rfl)
 clear ht3
 obtain ⟨p, q, fp, fq, lp4, lq4, ep, eq, LPQ⟩ := fun_letters4 h h2 g1.out
 obtain ⟨p', q', fp', fq', lp4', lq4', ep', eq', LPQ'⟩ := fun_letters4 h' h2' g2.out
 have FZ : Fr W3 (.agg #[.bool s, .slice A3 l.length c3, .slice B3 m.length d3]) (mkRat (Wd.iv s (Wd.val l)) (Wd.val m)) 1 := ⟨s, _, _, l, m, rfl, hl, hm, rfl, g3.out.1, g3.out.2, by omega⟩
 generalize (mkRat (Wd.iv s (Wd.val l)) (Wd.val m)) = z at *
 clear h h2 h' h2' hl hm
 clear g1 g2 g3 b0_0 b0_1 b1_0 b1_1 b2_0 b2_1 b2_2
 rw [← ep, ← eq] at b0
 rw [← ep', ← eq'] at b1
 rw [← ep] at fp
 rw [← eq] at fq
 rw [← ep'] at fp'
 rw [← eq'] at fq'
 try rw [← ep, ← eq]
 try rw [← ep', ← eq']
 clear ep eq ep' eq'
 obtain ⟨P, D, HP, HD, lP, lD, LPD, DN⟩ := parts_letters p q (m := 4) lp4 lq4 (by omega) LPQ.out
 obtain ⟨P', D', HP', HD', lP', lD', LPD', DN'⟩ := parts_letters p' q' (m := 4) lp4' lq4' (by omega) LPQ'.out
 have LZ := FZ.lq
 obtain ⟨t0, HT0⟩ : ∃ t, Hid (decide (Pq.nm q = []) = t) := ⟨_, Lib.hid rfl⟩
 obtain ⟨tq, HTQ⟩ : ∃ t, Hid ((!decide (Pq.nm q = [])) = t) := ⟨_, Lib.hid rfl⟩
 obtain ⟨b0_0, b0_1⟩ := b0.c2
 obtain ⟨b1_0, b1_1⟩ := b1.c2
 obtain ⟨b2_0, b2_1, b2_2⟩ := b2.c3
 go_wp2_with fail
 ((with_reducible refine (ref_norm15 (m := 4) (ka := 2) (j := 9) (K := 80) (DD := 485) (Z := 2505) fp fq lp4 lq4 (by omega) (by omega) LPQ.out (by omega) (by omega) (by omega) (by omega) (by omega) HP HD).mono ?_))
 rintro e W51 ⟨V51, U51, psa, qsa, rfl, a, ae, caa, lpa, lea, u51⟩
 obtain ⟨Aa, ca, rfl⟩ := a.form
 obtain ⟨Aae, cae, rfl⟩ := ae.form
 refine li12 u51 fp fq fp' fq' FZ b0 b1 b2 UP b0_0 b0_1 b1_0 ?_
 clear fp fq fp' fq' FZ b0 b1 b2 UP b0_0 b0_1 b1_0
 intro fp fq fp' fq' FZ b0 b1 b2 UP b0_0 b0_1 b1_0
 revert b1_1 b2_0 b2_1 b2_2
 revert u51
 refine lh4 ?_
 intro b1_1 b2_0 b2_1 b2_2
 have b0_0a := cA b0_0
 have b0_1a := cA b0_1
 have b1_0a := cA b1_0
 have b1_1a := cA b1_1
 have b2_0a := cA b2_0
 have b2_1a := cA b2_1
 have b2_2a := cA b2_2
 go_wp2_with fail
 clear b0_0a b0_1a b1_0a b1_1a b2_0a b2_1a b2_2a
 have x7 := Bx.new 80 W51 [.slice Aa psa.length ca, .slice Aae qsa.length cae]
 have b0_lt_x7 := b0.lt
 have b1_lt_x7 := b1.lt
 have b2_lt_x7 := b2.lt
 have nu := ((Up.refl W51).alloc (.cells #[.slice Aa psa.length ca, .slice Aae qsa.length cae] 80))
 revert a ae fp fq fp' fq' FZ b0 b1 b2 UP
 revert nu
 refine lh11 ?_
 intro a ae fp fq fp' fq' FZ b0 b1 b2 UP
 generalize (W51.alloc (.cells #[.slice Aa psa.length ca, .slice Aae qsa.length cae] 80)) = W52 at *
 clear b0_0 b0_1 b1_0 b1_1 b2_0 b2_1 b2_2
 obtain ⟨b0_0, b0_1⟩ := b0.c2
 obtain ⟨b1_0, b1_1⟩ := b1.c2
 obtain ⟨b2_0, b2_1, b2_2⟩ := b2.c3
 obtain ⟨x7_0, x7_1⟩ := x7.c2
 ((with_reducible refine (ref9_norm FZ (by omega)).mono ?_))
 rintro e W53 ⟨V53, rfl, kz, u53⟩
 revert x7 a ae fp fq fp' fq' FZ b0 b1 b2 UP
 refine lg12 u53 ?_
 intro x7 a ae fp fq fp' fq' FZ b0 b1 b2 UP
 revert b0_0 b0_1 b1_0 b1_1 b2_0 b2_1 b2_2 x7_0 x7_1
 revert u53
 refine lh9 ?_
 intro b0_0 b0_1 b1_0 b1_1 b2_0 b2_1 b2_2 x7_0 x7_1
 obtain ⟨Xkz, Ykz, rfl, kz, kzd⟩ := kz
 obtain ⟨Akz, nkz, ckz, rfl⟩ := kz.shape
 obtain ⟨Akzd, nkzd, ckzd, rfl⟩ := kzd.shape
 have b0_0a := cA b0_0
 have b0_1a := cA b0_1
 have b1_0a := cA b1_0
 have b1_1a := cA b1_1
 have b2_0a := cA b2_0
 have b2_1a := cA b2_1
 have b2_2a := cA b2_2
 have x7_0a := cA x7_0
 have x7_1a := cA x7_1
 go_wp2_with fail
 clear b0_0a b0_1a b1_0a b1_1a b2_0a b2_1a b2_2a x7_0a x7_1a
 have x8 := Bx.new 24 W53 [.bool (Wd.ngb z.num), .slice Akz nkz ckz, .slice Akzd nkzd ckzd]
 have b0_lt_x8 := b0.lt
 have b1_lt_x8 := b1.lt
 have b2_lt_x8 := b2.lt
 have x7_lt_x8 := x7.lt
 have nu := ((Up.refl W53).alloc (.cells #[.bool (Wd.ngb z.num), .slice Akz nkz ckz, .slice Akzd nkzd ckzd] 24))
 revert a ae fp fq fp' fq' FZ b0 b1 b2 kz kzd
 refine lg12 nu ?_
 intro a ae fp fq fp' fq' FZ b0 b1 b2 kz kzd
 revert x7 UP
 revert nu
 refine lh2 ?_
 intro x7 UP
 generalize (W53.alloc (.cells #[.bool (Wd.ngb z.num), .slice Akz nkz ckz, .slice Akzd nkzd ckzd] 24)) = W54 at *
 clear b0_0 b0_1 b1_0 b1_1 b2_0 b2_1 b2_2 x7_0 x7_1
 obtain ⟨b0_0, b0_1⟩ := b0.c2
 obtain ⟨b1_0, b1_1⟩ := b1.c2
 obtain ⟨b2_0, b2_1, b2_2⟩ := b2.c3
 obtain ⟨x7_0, x7_1⟩ := x7.c2
 obtain ⟨x8_0, x8_1, x8_2⟩ := x8.c3
 ((with_reducible refine (law_to15 fp fq (by omega) (by omega)).mono ?_))
 rintro e W55 ⟨V55, U55, rfl, x, xe, u55⟩
 obtain ⟨Ax, cx, rfl⟩ := x.form
 obtain ⟨Axe, cxe, rfl⟩ := xe.form
 try simp only [List.length_cons, List.length_nil, Nat.zero_add] at xe
 revert a ae fp fq fp' fq' FZ b0 b1 b2 kz kzd
 refine lg12 u55 ?_
 intro a ae fp fq fp' fq' FZ b0 b1 b2 kz kzd
 revert x8 x7 UP b0_0 b0_1 b1_0 b1_1 b2_0 b2_1 b2_2 x7_0 x7_1
 refine lg12 u55 ?_
 intro x8 x7 UP b0_0 b0_1 b1_0 b1_1 b2_0 b2_1 b2_2 x7_0 x7_1
 revert x8_0 x8_1 x8_2
 revert u55
 refine lh3 ?_
 intro x8_0 x8_1 x8_2
 clear fp
 have b0_0a := cA b0_0
 have b0_1a := cA b0_1
 have b1_0a := cA b1_0
 have b1_1a := cA b1_1
 have b2_0a := cA b2_0
 have b2_1a := cA b2_1
 have b2_2a := cA b2_2
 have x7_0a := cA x7_0
 have x7_1a := cA x7_1
 have x8_0a := cA x8_0
 have x8_1a := cA x8_1
 have x8_2a := cA x8_2
 go_wp2_with fail
 clear b0_0a b0_1a b1_0a b1_1a b2_0a b2_1a b2_2a x7_0a x7_1a x8_0a x8_1a x8_2a
 have x9 := Bx.new 84 W55 [.slice Ax p.length cx, .slice Axe q.length cxe]
 have b0_lt_x9 := b0.lt
 have b1_lt_x9 := b1.lt
 have b2_lt_x9 := b2.lt
 have x7_lt_x9 := x7.lt
 have x8_lt_x9 := x8.lt
 have nu := ((Up.refl W55).alloc (.cells #[.slice Ax p.length cx, .slice Axe q.length cxe] 84))
 revert x xe a ae fq fp' fq' FZ b0 b1 kz kzd
 refine lg12 nu ?_
 intro x xe a ae fq fp' fq' FZ b0 b1 kz kzd
 revert b2 x8 x7 UP
 revert nu
 refine lh4 ?_
 intro b2 x8 x7 UP
 generalize (W55.alloc (.cells #[.slice Ax p.length cx, .slice Axe q.length cxe] 84)) = W56 at *
 clear b0_0 b0_1 b1_0 b1_1 b2_0 b2_1 b2_2 x7_0 x7_1 x8_0 x8_1 x8_2
 obtain ⟨b0_0, b0_1⟩ := b0.c2
 obtain ⟨b1_0, b1_1⟩ := b1.c2
 obtain ⟨b2_0, b2_1, b2_2⟩ := b2.c3
 obtain ⟨x7_0, x7_1⟩ := x7.c2
 obtain ⟨x8_0, x8_1, x8_2⟩ := x8.c3
 obtain ⟨x9_0, x9_1⟩ := x9.c2
 ((with_reducible refine (ratf_newp x.fs xe.fs lp4 lq4 (by omega) (by omega) LPQ.out (K := 80) (by omega) (by omega) (by omega) HP HD HTQ).mono ?_))
 rintro e W57 ⟨V57, U57, psn, qsn, rfl, n, ne, can, lpn, len, u57⟩
 obtain ⟨An, cn, rfl⟩ := n.form
 obtain ⟨Ane, cne, rfl⟩ := ne.form
 revert x xe a ae fq fp' fq' FZ b0 b1 kz kzd
 refine lg12 u57 ?_
 intro x xe a ae fq fp' fq' FZ b0 b1 kz kzd
 revert x9 b2 x8 x7 UP b0_0 b0_1 b1_0 b1_1 b2_0 b2_1 b2_2
 refine lg12 u57 ?_
 intro x9 b2 x8 x7 UP b0_0 b0_1 b1_0 b1_1 b2_0 b2_1 b2_2
 revert x7_0 x7_1 x8_0 x8_1 x8_2 x9_0 x9_1
 revert u57
 refine lh7 ?_
 intro x7_0 x7_1 x8_0 x8_1 x8_2 x9_0 x9_1
 have b0_0a := cA b0_0
 have b0_1a := cA b0_1
 have b1_0a := cA b1_0
 have b1_1a := cA b1_1
 have b2_0a := cA b2_0
 have b2_1a := cA b2_1
 have b2_2a := cA b2_2
 have x7_0a := cA x7_0
 have x7_1a := cA x7_1
 have x8_0a := cA x8_0
 have x8_1a := cA x8_1
 have x8_2a := cA x8_2
 have x9_0a := cA x9_0
 have x9_1a := cA x9_1
 go_upto_region 7 with fail
 clear b0_0a b0_1a b1_0a b1_1a b2_0a b2_1a b2_2a x7_0a x7_1a x8_0a x8_1a x8_2a x9_0a x9_1a
 have x10 := Bx.new 84 W57 [.slice An psn.length cn, .slice Ane qsn.length cne]
 have b0_lt_x10 := b0.lt
 have b1_lt_x10 := b1.lt
 have b2_lt_x10 := b2.lt
 have x7_lt_x10 := x7.lt
 have x8_lt_x10 := x8.lt
 have x9_lt_x10 := x9.lt
 have nu := ((Up.refl W57).alloc (.cells #[.slice An psn.length cn, .slice Ane qsn.length cne] 84))
 revert n ne x xe a ae fq fp' fq' FZ kz kzd
 refine lg12 nu ?_
 intro n ne x xe a ae fq fp' fq' FZ kz kzd
 revert b0 b1 x9 b2 x8 x7 UP
 revert nu
 refine lh7 ?_
 intro b0 b1 x9 b2 x8 x7 UP
 generalize (W57.alloc (.cells #[.slice An psn.length cn, .slice Ane qsn.length cne] 84)) = W58 at *
 clear b0_0 b0_1 b1_0 b1_1 b2_0 b2_1 b2_2 x7_0 x7_1 x8_0 x8_1 x8_2 x9_0 x9_1
 obtain ⟨b0_0, b0_1⟩ := b0.c2
 obtain ⟨b1_0, b1_1⟩ := b1.c2
 obtain ⟨b2_0, b2_1, b2_2⟩ := b2.c3
 obtain ⟨x7_0, x7_1⟩ := x7.c2
 obtain ⟨x8_0, x8_1, x8_2⟩ := x8.c3
 obtain ⟨x9_0, x9_1⟩ := x9.c2
 obtain ⟨x10_0, x10_1⟩ := x10.c2
 have HEN : Hid (psn = psa ∧ qsn = qsa) := Lib.hid (can.out.unique DN.out caa.out)
 clear can lpn len
 have UPo := Lib.hid UP
 clear UP
 have UP := Up.refl W58
 have HFQ := Lib.hid fq
 obtain ⟨P0, HP0⟩ : ∃ P, Hid (((1 : Int) : Rat) = P) := ⟨_, Lib.hid rfl⟩
 have LO : Wd.Lq P0 2 := by rw [← HP0.out]; exact lq_int (by omega)
 obtain ⟨R0, HR0⟩ : ∃ R, Hid (Pq.nm [P0] = R) := ⟨_, Lib.hid rfl⟩
 have LQ1 : Hid (Pq.Lp (q ++ [1]) 11) := Lib.hid ((Pq.Lp.few (k := 2) (fun y hy => by
  rcases List.mem_append.1 hy with hy | hy
  · exact fq.lq y hy
  · rw [List.mem_singleton.1 hy]; exact lq_one)).mono (by rw [List.length_append]; simp; omega))
 have HPZ : Hid (Pq.pu q [1] = q) := Lib.hid (Pq.pu_of (by rw [Pq.nm_one]; simp))
 have HDZ : Hid (Pq.pd q [1] = [1]) := Lib.hid (Pq.pd_of (by rw [Pq.nm_one]; simp))
 have hfield := field_down15
 go_cut [12] (fun t12 wx => ∃ (g : Nat) (Az Bz : Option Addr) (cz dz : Nat) (psz qsz : List Rat), t12 = .pointer (some ⟨g, 0, none⟩) ∧ Bx 80 wx g [.slice Az psz.length cz, .slice Bz qsz.length dz] ∧ GRow 96 wx (.slice Az psz.length cz) psz ∧ GRow 96 wx (.slice Bz qsz.length dz) qsz ∧ Hid (Pq.Can q [1] psz qsz) ∧ Up W58 wx)
 case first =>
  obtain ⟨b0_0, b0_1⟩ := b0.c2
  revert b0 UP b0_0 b0_1; refine lg4 (Up.refl W58).drew ?_; intro b0 UP b0_0 b0_1
  refine wp_region_noPanic ?_
  refine wp_region_held_drew (S := fun w' => Up W58 w' ∧ w'.cell? ⟨w.heap.size, 0, none⟩ = some (.slice A1 p.length c1) ∧ w'.cell? ⟨w.heap.size, 1, none⟩ = some (.slice B1 q.length d1)) (by kernel_rfl) (by exact ⟨UP, b0_0, b0_1⟩) (fun hHeld => ?_)
  clear hHeld
  generalize W58.drew = WC at *
  have hHeld : Up W58 WC ∧ WC.cell? ⟨w.heap.size, 0, none⟩ = some (.slice A1 p.length c1) ∧ WC.cell? ⟨w.heap.size, 1, none⟩ = some (.slice B1 q.length d1) := by exact ⟨UP, b0_0, b0_1⟩
  refine tk 0 ?_
  try simp only [gs, Act.put]
  refine tk 1 ?_
  try simp only [gs, Act.put]
  repeat' first
   | (refine tk 4 ?_
      try simp only [gs, Act.put])
   | (refine tk 5 ?_
      try simp only [gs, Act.put])
   | refine wpAnyH_ready (rs := [2, 7]) (by decide +kernel) (by simp) ?_
   | refine wpAnyH_ready (rs := [2]) (by decide +kernel) (by simp) ?_
   | refine wpAnyH_ready (rs := [3, 7]) (by decide +kernel) (by simp) ?_
   | refine wpAnyH_ready (rs := [3]) (by decide +kernel) (by simp) ?_
   | refine wpAnyH_ready (rs := [6, 7]) (by decide +kernel) (by simp) ?_
   | refine wpAnyH_ready (rs := [6]) (by decide +kernel) (by simp) ?_
   | refine wpAnyH_ready (rs := [7]) (by decide +kernel) (by simp) ?_
   | refine wpAnyH_ready (rs := [8]) (by decide +kernel) (by simp) ?_
   | refine AllReadyH.cons (i := 2) rfl (fun K hK2 => ?_) ?_
   | refine AllReadyH.cons (i := 3) rfl (fun K hK3 => ?_) ?_
   | refine AllReadyH.cons (i := 6) rfl (fun K hK6 => ?_) ?_
   | refine AllReadyH.cons (i := 7) rfl (fun K hK7 => ?_) ?_
   | refine AllReadyH.cons (i := 8) rfl (fun K hK8 => ?_) ?_
   | exact AllReadyH.nil
   | (have hK := hK2
      clear hK2
      (try clear hHeld)
      go_simp
      go_at_call 65
      ((with_reducible refine (ref9_int (n := 1) (by omega) _).mono ?_))
      rintro e WD ⟨V2, rfl, o, uu⟩
      try (replace i := i.up uu)
      try (replace ie := ie.up uu)
      try (replace zr := zr.up uu)
      try (replace ze := ze.up uu)
      refine li2 uu b0 UP ?_; clear b0 UP; intro b0 UP
      try (replace y1 := y1.up uu)
      clear uu
      obtain ⟨WC, hWC⟩ : ∃ W, W = WD := ⟨_, rfl⟩
      subst hWC
      clear b0_0 b0_1
      obtain ⟨b0_0, b0_1⟩ := b0.c2
      rw [HP0.out] at o
      try go_wp2_with fail
      refine hK.out _ _ (by exact ⟨UP, b0_0, b0_1⟩) (fun hHeld => ?_)
      clear hK K
      try simp only [gs, Act.put])
   | (have hK := hK3
      clear hK3
      (try clear hHeld)
      go_simp
      go_at_call 64
      ((with_reducible refine (ref_of15 o LO (by omega) (by omega) HR0).mono ?_))
      rintro e WD ⟨V3, U3, rfl, i, ie, uu⟩
      obtain ⟨Ai, ci, rfl⟩ := i.form
      obtain ⟨Aie, cie, rfl⟩ := ie.form
      try simp only [List.length_cons, List.length_nil, Nat.zero_add] at ie
      try (replace o := o.up uu)
      try (replace zr := zr.up uu)
      try (replace ze := ze.up uu)
      refine li2 uu b0 UP ?_; clear b0 UP; intro b0 UP
      try (replace y1 := y1.up uu)
      clear uu
      obtain ⟨WC, hWC⟩ : ∃ W, W = WD := ⟨_, rfl⟩
      subst hWC
      clear b0_0 b0_1
      obtain ⟨b0_0, b0_1⟩ := b0.c2
      try go_wp2_with fail
      refine hK.out _ _ (by exact ⟨UP, b0_0, b0_1⟩) (fun hHeld => ?_)
      clear hK K
      try simp only [gs, Act.put])
   | (have hK := hK6
      clear hK6
      (try clear hHeld)
      go_simp
      go_at_call 61
      ((with_reducible refine (ref_norm15 (m := 4) (ka := 2) (j := 11) (K := 96) (DD := 581) (Z := 3001) (HFQ.out.up UP) ie.q.fr lq4 (by simp) (by omega) (by omega) LQ1.out (by omega) (by omega) (by omega) (by omega) (by omega) HPZ HDZ).mono ?_))
      rintro e WD ⟨V6, U6, pszr, qszr, rfl, zr, ze, cazr, lpzr, lezr, uu⟩
      obtain ⟨Azr, czr, rfl⟩ := zr.form
      obtain ⟨Aze, cze, rfl⟩ := ze.form
      try (replace o := o.up uu)
      try (replace i := i.up uu)
      try (replace ie := ie.up uu)
      refine li2 uu b0 UP ?_; clear b0 UP; intro b0 UP
      try (replace y1 := y1.up uu)
      clear uu
      obtain ⟨WC, hWC⟩ : ∃ W, W = WD := ⟨_, rfl⟩
      subst hWC
      clear b0_0 b0_1
      obtain ⟨b0_0, b0_1⟩ := b0.c2
      try go_wp2_with fail
      refine hK.out _ _ (by exact ⟨UP, b0_0, b0_1⟩) (fun hHeld => ?_)
      clear hK K
      try simp only [gs, Act.put])
   | (have hK := hK7
      clear hK7
      (try clear hHeld)
      go_simp
      have y1 := Bx.new 80 WC [.slice none 0 0, .slice none 0 0]
      have b0_lt_y1 := b0.lt
      have y1_base := UP.size
      have nu := ((Up.refl WC).alloc (.cells #[.slice none 0 0, .slice none 0 0] 80))
      try (replace o := o.up nu)
      try (replace i := i.up nu)
      try (replace ie := ie.up nu)
      try (replace zr := zr.up nu)
      try (replace ze := ze.up nu)
      refine li2 nu b0 UP ?_; clear b0 UP nu; intro b0 UP
      generalize WC.alloc (.cells #[.slice none 0 0, .slice none 0 0] 80) = WD at *
      generalize WC.heap.size = gy1 at *
      obtain ⟨WC, hWC⟩ : ∃ W, W = WD := ⟨_, rfl⟩
      subst hWC
      clear b0_0 b0_1
      obtain ⟨b0_0, b0_1⟩ := b0.c2
      refine hK.out _ _ (by exact ⟨UP, b0_0, b0_1⟩) (fun hHeld => ?_)
      clear hK K
      try simp only [gs, Act.put])
   | (have hK := hK8
      clear hK8
      (try clear hHeld)
      obtain ⟨ce0, ce1⟩ := y1.c2
      have fr0 := y1.free 0
      have fr1 := y1.free 1
      go_simp
      clear ce0 ce1 fr0 fr1
      have KW : Kw (WC) ((WC).setCell ⟨gy1, 0, none⟩ (.slice Azr pszr.length czr)) := Kw.store (c := (.slice none 0 0)) y1 rfl trivial _
      try (replace o := o.kw KW)
      try (replace i := i.stored y1 (by decide) KW)
      try (replace ie := ie.stored y1 (by decide) KW)
      try (replace zr := zr.stored y1 (by decide) KW)
      try (replace ze := ze.stored y1 (by decide) KW)
      replace b0 := b0.fr gy1 0 (.slice Azr pszr.length czr)
      replace y1 : Bx 80 ((WC).setCell ⟨gy1, 0, none⟩ (.slice Azr pszr.length czr)) (gy1) [.slice Azr pszr.length czr, .slice none 0 0] := y1.set 0 (.slice Azr pszr.length czr)
      replace UP := UP.setCell (p := ⟨gy1, 0, none⟩) (by dsimp only; omega) (.slice Azr pszr.length czr)
      have KW : Kw (((WC).setCell ⟨gy1, 0, none⟩ (.slice Azr pszr.length czr))) ((((WC).setCell ⟨gy1, 0, none⟩ (.slice Azr pszr.length czr))).setCell ⟨gy1, 1, none⟩ (.slice Aze qszr.length cze)) := Kw.store (c := (.slice none 0 0)) y1 rfl trivial _
      try (replace o := o.kw KW)
      try (replace i := i.stored y1 (by decide) KW)
      try (replace ie := ie.stored y1 (by decide) KW)
      try (replace zr := zr.stored y1 (by decide) KW)
      try (replace ze := ze.stored y1 (by decide) KW)
      replace b0 := b0.fr gy1 1 (.slice Aze qszr.length cze)
      replace y1 : Bx 80 ((((WC).setCell ⟨gy1, 0, none⟩ (.slice Azr pszr.length czr))).setCell ⟨gy1, 1, none⟩ (.slice Aze qszr.length cze)) (gy1) [.slice Azr pszr.length czr, .slice Aze qszr.length cze] := y1.set 1 (.slice Aze qszr.length cze)
      replace UP := UP.setCell (p := ⟨gy1, 1, none⟩) (by dsimp only; omega) (.slice Aze qszr.length cze)
      clear KW
      generalize ((((WC).setCell ⟨gy1, 0, none⟩ (.slice Azr pszr.length czr))).setCell ⟨gy1, 1, none⟩ (.slice Aze qszr.length cze)) = WD at *
      obtain ⟨WC, hWC⟩ : ∃ W, W = WD := ⟨_, rfl⟩
      subst hWC
      clear b0_0 b0_1
      obtain ⟨b0_0, b0_1⟩ := b0.c2
      refine hK.out _ _ (by exact ⟨UP, b0_0, b0_1⟩) (fun hHeld => ?_)
      clear hK K
      try simp only [gs, Act.put])
   | refine wpAnyH_done (by decide +kernel) (NoPanic.normal ?_) _
   | fail
  all_goals try clear hHeld
  all_goals obtain ⟨y1_0, y1_1⟩ := y1.c2
  all_goals
   go_wp2_with fail
   go_meet
   exact ⟨gy1, _, _, _, _, _, _, rfl, y1, zr, ze, cazr, UP⟩
 case rest =>
  clear UP HFQ
  have UP := UPo.out
  obtain ⟨g12, Az, Bz, cz, dz, psz, qsz, rfl, y1, zr, ze, caz, UX⟩ := hcut
  clear fq
  revert n ne x xe a ae fp' fq' FZ kz kzd b0; refine lg12 UX ?_; intro n ne x xe a ae fp' fq' FZ kz kzd b0; refine li12 UX b1 b2 x7 x8 x9 x10 UP b0_0 b0_1 b1_0 b1_1 b2_0 ?_; clear b1 b2 x7 x8 x9 x10 UP b0_0 b0_1 b1_0 b1_1 b2_0; intro b1 b2 x7 x8 x9 x10 UP b0_0 b0_1 b1_0 b1_1 b2_0; revert b2_1 b2_2 x7_0 x7_1 x8_0 x8_1 x8_2 x9_0 x9_1 x10_0 x10_1; revert UX; refine lh11 ?_; intro b2_1 b2_2 x7_0 x7_1 x8_0 x8_1 x8_2 x9_0 x9_1 x10_0 x10_1
  obtain ⟨WA, hWA⟩ : ∃ W, W = wc := ⟨_, rfl⟩
  subst hWA
  clear b0_0 b0_1 b1_0 b1_1 b2_0 b2_1 b2_2 x7_0 x7_1 x8_0 x8_1 x8_2 x9_0 x9_1 x10_0 x10_1
  obtain ⟨b0_0, b0_1⟩ := b0.c2
  obtain ⟨b1_0, b1_1⟩ := b1.c2
  obtain ⟨b2_0, b2_1, b2_2⟩ := b2.c3
  obtain ⟨x7_0, x7_1⟩ := x7.c2
  obtain ⟨x8_0, x8_1, x8_2⟩ := x8.c3
  obtain ⟨x9_0, x9_1⟩ := x9.c2
  obtain ⟨x10_0, x10_1⟩ := x10.c2
  obtain ⟨y1_0, y1_1⟩ := y1.c2
  obtain ⟨tv, HTV⟩ : ∃ t, Hid ((!decide (Pq.E qsa z = 0)) = t) := ⟨_, Lib.hid rfl⟩
  have LVV : Wd.Lq (Pq.E psa z / Pq.E qsa z) 900 := by
   have l1 := lq_eval LZ psa lpa.out.fst.lq
   have l2 := lq_eval LZ qsa lpa.out.snd.lq
   have h1 : psa.length * (1 + 80 + 1) ≤ 4 * (1 + 80 + 1) := Nat.mul_le_mul_right _ lea.out.1
   have h2 : qsa.length * (1 + 80 + 1) ≤ 4 * (1 + 80 + 1) := Nat.mul_le_mul_right _ lea.out.2
   exact (l1.div l2).mono (by omega)
  obtain ⟨VV, HVV⟩ : ∃ t, Hid (Pq.E psa z / Pq.E qsa z = t) := ⟨_, Lib.hid rfl⟩
  rw [HVV.out] at LVV
  go_upto_region 8 with fail
  have UPo2 := Lib.hid UP
  clear UP
  have UP := Up.refl WA
  have HX := Lib.hid x.fs
  have HXE := Lib.hid xe.fs
  have HFZ := Lib.hid FZ
  go_cut [13, 14] (fun t13 t14 wx => ∃ (g : Nat) (Av Bv : Option Addr) (nv cv mv dv : Nat), t13 = .pointer (some ⟨g, 0, none⟩) ∧ t14 = .bool tv ∧ Bx 34 wx g [.bool (Wd.ngb VV.num), .slice Av nv cv, .slice Bv mv dv] ∧ Qw wx (.agg #[.bool (Wd.ngb VV.num), .slice Av nv cv, .slice Bv mv dv]) VV ∧ Up WA wx)
  case first =>
   obtain ⟨x9_0, x9_1⟩ := x9.c2
   obtain ⟨b2_0, b2_1, b2_2⟩ := b2.c3
   refine li8 (Up.refl WA).drew x9 b2 UP x9_0 x9_1 b2_0 b2_1 b2_2 ?_; clear x9 b2 UP x9_0 x9_1 b2_0 b2_1 b2_2; intro x9 b2 UP x9_0 x9_1 b2_0 b2_1 b2_2
   refine wp_region_noPanic ?_
   refine wp_region_held_drew (S := fun w' => Up WA w' ∧ w'.cell? ⟨W55.heap.size, 0, none⟩ = some (.slice Ax p.length cx) ∧ w'.cell? ⟨W55.heap.size, 1, none⟩ = some (.slice Axe q.length cxe) ∧ w'.cell? ⟨w.heap.size + 1 + 1, 0, none⟩ = some (.bool s) ∧ w'.cell? ⟨w.heap.size + 1 + 1, 1, none⟩ = some (.slice A3 l.length c3) ∧ w'.cell? ⟨w.heap.size + 1 + 1, 2, none⟩ = some (.slice B3 m.length d3)) (by kernel_rfl) (by exact ⟨UP, x9_0, x9_1, b2_0, b2_1, b2_2⟩) (fun hHeld => ?_)
   clear hHeld
   generalize WA.drew = WC at *
   have hHeld : Up WA WC ∧ WC.cell? ⟨W55.heap.size, 0, none⟩ = some (.slice Ax p.length cx) ∧ WC.cell? ⟨W55.heap.size, 1, none⟩ = some (.slice Axe q.length cxe) ∧ WC.cell? ⟨w.heap.size + 1 + 1, 0, none⟩ = some (.bool s) ∧ WC.cell? ⟨w.heap.size + 1 + 1, 1, none⟩ = some (.slice A3 l.length c3) ∧ WC.cell? ⟨w.heap.size + 1 + 1, 2, none⟩ = some (.slice B3 m.length d3) := by exact ⟨UP, x9_0, x9_1, b2_0, b2_1, b2_2⟩
   refine tk 0 ?_
   try simp only [gs, Act.put]
   refine tk 1 ?_
   try simp only [gs, Act.put]
   repeat' first
    | (refine tk 4 ?_
       try simp only [gs, Act.put])
    | (refine tk 5 ?_
       try simp only [gs, Act.put])
    | (refine tk 6 ?_
       try simp only [gs, Act.put])
    | refine wpAnyH_ready (rs := [2, 7]) (by decide +kernel) (by simp) ?_
    | refine wpAnyH_ready (rs := [2]) (by decide +kernel) (by simp) ?_
    | refine wpAnyH_ready (rs := [3, 7]) (by decide +kernel) (by simp) ?_
    | refine wpAnyH_ready (rs := [3]) (by decide +kernel) (by simp) ?_
    | refine wpAnyH_ready (rs := [7]) (by decide +kernel) (by simp) ?_
    | refine wpAnyH_ready (rs := [8]) (by decide +kernel) (by simp) ?_
    | refine wpAnyH_ready (rs := [9]) (by decide +kernel) (by simp) ?_
    | refine AllReadyH.cons (i := 2) rfl (fun K hK2 => ?_) ?_
    | refine AllReadyH.cons (i := 3) rfl (fun K hK3 => ?_) ?_
    | refine AllReadyH.cons (i := 7) rfl (fun K hK7 => ?_) ?_
    | refine AllReadyH.cons (i := 8) rfl (fun K hK8 => ?_) ?_
    | refine AllReadyH.cons (i := 9) rfl (fun K hK9 => ?_) ?_
    | exact AllReadyH.nil
    | (have hK := hK2
       clear hK2
       (try clear hHeld)
       go_simp
       go_at_call 26
       ((with_reducible refine (law_to9 _ _ _ _ _ _ _ _).mono ?_))
       rintro e WD ⟨rfl, uu⟩
       try (replace ev := ev.up uu)
       try (replace evd := evd.up uu)
       refine li3 uu x9 b2 UP ?_; clear x9 b2 UP; intro x9 b2 UP
       try (replace v1 := v1.up uu)
       clear uu
       obtain ⟨WC, hWC⟩ : ∃ W, W = WD := ⟨_, rfl⟩
       subst hWC
       clear x9_0 x9_1
       obtain ⟨x9_0, x9_1⟩ := x9.c2
       clear b2_0 b2_1 b2_2
       obtain ⟨b2_0, b2_1, b2_2⟩ := b2.c3
       try go_wp2_with fail
       refine hK.out _ _ (by exact ⟨UP, x9_0, x9_1, b2_0, b2_1, b2_2⟩) (fun hHeld => ?_)
       clear hK K
       try simp only [gs, Act.put])
    | (have hK := hK3
       clear hK3
       (try clear hHeld)
       go_simp
       go_at_call 66
       ((with_reducible refine (ratf_eval (k := 2) (kz := 1) (HX.out.up UP) (HXE.out.up UP) lp4 lq4 (by omega) (by omega) LPQ.out (K := 80) (by omega) (by omega) (by omega) (by omega) HP HD (HFZ.out.up UP) (KE := 660) (by omega) (by omega) (by omega)).mono ?_))
       rintro e WD ⟨V3, usev, dsev, rfl, ev, caev, lvev, uu⟩
       try (replace evd := evd.up uu)
       refine li3 uu x9 b2 UP ?_; clear x9 b2 UP; intro x9 b2 UP
       try (replace v1 := v1.up uu)
       clear uu
       obtain ⟨WC, hWC⟩ : ∃ W, W = WD := ⟨_, rfl⟩
       subst hWC
       clear x9_0 x9_1
       obtain ⟨x9_0, x9_1⟩ := x9.c2
       clear b2_0 b2_1 b2_2
       obtain ⟨b2_0, b2_1, b2_2⟩ := b2.c3
       obtain ⟨ea, eb⟩ := caa.out.unique DN.out caev.out
       subst ea eb
       rw [HTV.out]
       rw [HVV.out] at ev
       obtain ⟨Xev, Yev, rfl, ev, evd⟩ := ev
       obtain ⟨Aev, nev, cev, rfl⟩ := ev.shape
       obtain ⟨Aevd, nevd, cevd, rfl⟩ := evd.shape
       try go_wp2_with fail
       refine hK.out _ _ (by exact ⟨UP, x9_0, x9_1, b2_0, b2_1, b2_2⟩) (fun hHeld => ?_)
       clear hK K
       try simp only [gs, Act.put])
    | (have hK := hK7
       clear hK7
       (try clear hHeld)
       go_simp
       have v1 := Bx.new 34 WC [.bool false, .slice none 0 0, .slice none 0 0]
       have x9_lt_v1 := x9.lt
       have b2_lt_v1 := b2.lt
       have v1_base := UP.size
       have nu := ((Up.refl WC).alloc (.cells #[.bool false, .slice none 0 0, .slice none 0 0] 34))
       try (replace ev := ev.up nu)
       try (replace evd := evd.up nu)
       refine li3 nu x9 b2 UP ?_; clear x9 b2 UP nu; intro x9 b2 UP
       generalize WC.alloc (.cells #[.bool false, .slice none 0 0, .slice none 0 0] 34) = WD at *
       generalize WC.heap.size = gv1 at *
       obtain ⟨WC, hWC⟩ : ∃ W, W = WD := ⟨_, rfl⟩
       subst hWC
       clear x9_0 x9_1
       obtain ⟨x9_0, x9_1⟩ := x9.c2
       clear b2_0 b2_1 b2_2
       obtain ⟨b2_0, b2_1, b2_2⟩ := b2.c3
       refine hK.out _ _ (by exact ⟨UP, x9_0, x9_1, b2_0, b2_1, b2_2⟩) (fun hHeld => ?_)
       clear hK K
       try simp only [gs, Act.put])
    | (have hK := hK8
       clear hK8
       (try clear hHeld)
       obtain ⟨ce0, ce1, ce2⟩ := v1.c3
       have fr0 := v1.free 0
       have fr1 := v1.free 1
       have fr2 := v1.free 2
       go_simp
       clear ce0 ce1 ce2 fr0 fr1 fr2
       have KW : Kw (WC) ((WC).setCell ⟨gv1, 0, none⟩ (.bool (Wd.ngb VV.num))) := Kw.store (c := (.bool false)) v1 rfl trivial _
       try (replace ev := ev.kw KW)
       try (replace evd := evd.kw KW)
       replace x9 := x9.fr gv1 0 (.bool (Wd.ngb VV.num))
       replace b2 := b2.fr gv1 0 (.bool (Wd.ngb VV.num))
       replace v1 : Bx 34 ((WC).setCell ⟨gv1, 0, none⟩ (.bool (Wd.ngb VV.num))) (gv1) [.bool (Wd.ngb VV.num), .slice none 0 0, .slice none 0 0] := v1.set 0 (.bool (Wd.ngb VV.num))
       replace UP := UP.setCell (p := ⟨gv1, 0, none⟩) (by dsimp only; omega) (.bool (Wd.ngb VV.num))
       have KW : Kw (((WC).setCell ⟨gv1, 0, none⟩ (.bool (Wd.ngb VV.num)))) ((((WC).setCell ⟨gv1, 0, none⟩ (.bool (Wd.ngb VV.num)))).setCell ⟨gv1, 1, none⟩ (.slice Aev nev cev)) := Kw.store (c := (.slice none 0 0)) v1 rfl trivial _
       try (replace ev := ev.kw KW)
       try (replace evd := evd.kw KW)
       replace x9 := x9.fr gv1 1 (.slice Aev nev cev)
       replace b2 := b2.fr gv1 1 (.slice Aev nev cev)
       replace v1 : Bx 34 ((((WC).setCell ⟨gv1, 0, none⟩ (.bool (Wd.ngb VV.num)))).setCell ⟨gv1, 1, none⟩ (.slice Aev nev cev)) (gv1) [.bool (Wd.ngb VV.num), .slice Aev nev cev, .slice none 0 0] := v1.set 1 (.slice Aev nev cev)
       replace UP := UP.setCell (p := ⟨gv1, 1, none⟩) (by dsimp only; omega) (.slice Aev nev cev)
       have KW : Kw (((((WC).setCell ⟨gv1, 0, none⟩ (.bool (Wd.ngb VV.num)))).setCell ⟨gv1, 1, none⟩ (.slice Aev nev cev))) ((((((WC).setCell ⟨gv1, 0, none⟩ (.bool (Wd.ngb VV.num)))).setCell ⟨gv1, 1, none⟩ (.slice Aev nev cev))).setCell ⟨gv1, 2, none⟩ (.slice Aevd nevd cevd)) := Kw.store (c := (.slice none 0 0)) v1 rfl trivial _
       try (replace ev := ev.kw KW)
       try (replace evd := evd.kw KW)
       replace x9 := x9.fr gv1 2 (.slice Aevd nevd cevd)
       replace b2 := b2.fr gv1 2 (.slice Aevd nevd cevd)
       replace v1 : Bx 34 ((((((WC).setCell ⟨gv1, 0, none⟩ (.bool (Wd.ngb VV.num)))).setCell ⟨gv1, 1, none⟩ (.slice Aev nev cev))).setCell ⟨gv1, 2, none⟩ (.slice Aevd nevd cevd)) (gv1) [.bool (Wd.ngb VV.num), .slice Aev nev cev, .slice Aevd nevd cevd] := v1.set 2 (.slice Aevd nevd cevd)
       replace UP := UP.setCell (p := ⟨gv1, 2, none⟩) (by dsimp only; omega) (.slice Aevd nevd cevd)
       clear KW
       generalize ((((((WC).setCell ⟨gv1, 0, none⟩ (.bool (Wd.ngb VV.num)))).setCell ⟨gv1, 1, none⟩ (.slice Aev nev cev))).setCell ⟨gv1, 2, none⟩ (.slice Aevd nevd cevd)) = WD at *
       obtain ⟨WC, hWC⟩ : ∃ W, W = WD := ⟨_, rfl⟩
       subst hWC
       clear x9_0 x9_1
       obtain ⟨x9_0, x9_1⟩ := x9.c2
       clear b2_0 b2_1 b2_2
       obtain ⟨b2_0, b2_1, b2_2⟩ := b2.c3
       refine hK.out _ _ (by exact ⟨UP, x9_0, x9_1, b2_0, b2_1, b2_2⟩) (fun hHeld => ?_)
       clear hK K
       try simp only [gs, Act.put])
    | (have hK := hK9
       clear hK9
       (try clear hHeld)
       go_simp
       refine hK.out _ _ (by exact ⟨UP, x9_0, x9_1, b2_0, b2_1, b2_2⟩) (fun hHeld => ?_)
       clear hK K
       try simp only [gs, Act.put])
    | refine wpAnyH_done (by decide +kernel) (NoPanic.normal ?_) _
    | fail
   all_goals try clear hHeld
   all_goals obtain ⟨v1_0, v1_1, v1_2⟩ := v1.c3
   all_goals
    go_wp2_with fail
    go_meet
    exact ⟨gv1, _, _, _, _, _, _, rfl, rfl, v1, qw_of ev evd, UP⟩
  case rest =>
   as_aux_lemma =>
    clear UP HX HXE HFZ
    have UP := UPo2.out
    obtain ⟨g13, Av, Bv, nv, cv, mv, dv, rfl, rfl, y2, QV, UX⟩ := hcut
    refine li12 UX fp' fq' FZ a ae kz kzd x xe n ne zr ?_; clear fp' fq' FZ a ae kz kzd x xe n ne zr; intro fp' fq' FZ a ae kz kzd x xe n ne zr; refine li12 UX ze b0 b1 b2 x7 x8 x9 x10 y1 UP b0_0 b0_1 ?_; clear ze b0 b1 b2 x7 x8 x9 x10 y1 UP b0_0 b0_1; intro ze b0 b1 b2 x7 x8 x9 x10 y1 UP b0_0 b0_1; refine li12 UX b1_0 b1_1 b2_0 b2_1 b2_2 x7_0 x7_1 x8_0 x8_1 x8_2 x9_0 x9_1 ?_; clear b1_0 b1_1 b2_0 b2_1 b2_2 x7_0 x7_1 x8_0 x8_1 x8_2 x9_0 x9_1; intro b1_0 b1_1 b2_0 b2_1 b2_2 x7_0 x7_1 x8_0 x8_1 x8_2 x9_0 x9_1; revert x10_0 x10_1 y1_0 y1_1; revert UX; refine lh4 ?_; intro x10_0 x10_1 y1_0 y1_1
    obtain ⟨WB, hWB⟩ : ∃ W, W = wc := ⟨_, rfl⟩
    subst hWB
    clear b0_0 b0_1 b1_0 b1_1 b2_0 b2_1 b2_2 x7_0 x7_1 x8_0 x8_1 x8_2 x9_0 x9_1 x10_0 x10_1 y1_0 y1_1
    obtain ⟨b0_0, b0_1⟩ := b0.c2
    obtain ⟨b1_0, b1_1⟩ := b1.c2
    obtain ⟨b2_0, b2_1, b2_2⟩ := b2.c3
    obtain ⟨x7_0, x7_1⟩ := x7.c2
    obtain ⟨x8_0, x8_1, x8_2⟩ := x8.c3
    obtain ⟨x9_0, x9_1⟩ := x9.c2
    obtain ⟨x10_0, x10_1⟩ := x10.c2
    obtain ⟨y1_0, y1_1⟩ := y1.c2
    obtain ⟨y2_0, y2_1, y2_2⟩ := y2.c3
    go_wp2_with fail
    ((with_reducible refine (ref_eval15 a.q ae.q (Nat.le_trans lea.out.1 (by omega)) (Nat.le_trans lea.out.2 (by omega)) (qw_of kz kzd) LZ (by omega) (by omega)).mono ?_))
    rintro e W91 ⟨V91, rfl, e0, u91⟩
    refine li12 u91 fp' fq' FZ a ae kz kzd x xe n ne zr ?_; clear fp' fq' FZ a ae kz kzd x xe n ne zr; intro fp' fq' FZ a ae kz kzd x xe n ne zr; refine li12 u91 ze QV b0 b1 b2 x7 x8 x9 x10 y1 y2 UP ?_; clear ze QV b0 b1 b2 x7 x8 x9 x10 y1 y2 UP; intro ze QV b0 b1 b2 x7 x8 x9 x10 y1 y2 UP; revert b0_0 b0_1 b1_0 b1_1 b2_0 b2_1 b2_2 x7_0 x7_1 x8_0 x8_1 x8_2; refine lg12 u91 ?_; intro b0_0 b0_1 b1_0 b1_1 b2_0 b2_1 b2_2 x7_0 x7_1 x8_0 x8_1 x8_2; revert x9_0 x9_1 x10_0 x10_1 y1_0 y1_1 y2_0 y2_1 y2_2; revert u91; refine lh9 ?_; intro x9_0 x9_1 x10_0 x10_1 y1_0 y1_1 y2_0 y2_1 y2_2
    rw [HTV.out]
    rw [HVV.out] at e0
    obtain ⟨Xe0, Ye0, rfl, e0, e0d⟩ := e0
    obtain ⟨Ae0, ne0, ce0, rfl⟩ := e0.shape
    obtain ⟨Ae0d, ne0d, ce0d, rfl⟩ := e0d.shape
    have b0_0a := cA b0_0
    have b0_1a := cA b0_1
    have b1_0a := cA b1_0
    have b1_1a := cA b1_1
    have b2_0a := cA b2_0
    have b2_1a := cA b2_1
    have b2_2a := cA b2_2
    have x7_0a := cA x7_0
    have x7_1a := cA x7_1
    have x8_0a := cA x8_0
    have x8_1a := cA x8_1
    have x8_2a := cA x8_2
    have x9_0a := cA x9_0
    have x9_1a := cA x9_1
    have x10_0a := cA x10_0
    have x10_1a := cA x10_1
    have y1_0a := cA y1_0
    have y1_1a := cA y1_1
    have y2_0a := cA y2_0
    have y2_1a := cA y2_1
    have y2_2a := cA y2_2
    go_upto_region 10 with fail
    clear b0_0a b0_1a b1_0a b1_1a b2_0a b2_1a b2_2a x7_0a x7_1a x8_0a x8_1a x8_2a x9_0a x9_1a x10_0a x10_1a y1_0a y1_1a y2_0a y2_1a y2_2a
    have x15 := Bx.new 24 W91 [.bool (Wd.ngb VV.num), .slice Ae0 ne0 ce0, .slice Ae0d ne0d ce0d]
    have b0_lt_x15 := b0.lt
    have b1_lt_x15 := b1.lt
    have b2_lt_x15 := b2.lt
    have x7_lt_x15 := x7.lt
    have x8_lt_x15 := x8.lt
    have x9_lt_x15 := x9.lt
    have x10_lt_x15 := x10.lt
    have y1_lt_x15 := y1.lt
    have y2_lt_x15 := y2.lt
    have nu := ((Up.refl W91).alloc (.cells #[.bool (Wd.ngb VV.num), .slice Ae0 ne0 ce0, .slice Ae0d ne0d ce0d] 24))
    revert fp' fq' FZ a ae kz kzd x xe n ne zr; refine lg12 nu ?_; intro fp' fq' FZ a ae kz kzd x xe n ne zr; revert ze QV b0 b1 b2 x7 x8 x9 x10 y1 e0 e0d; refine lg12 nu ?_; intro ze QV b0 b1 b2 x7 x8 x9 x10 y1 e0 e0d; revert y2 UP; revert nu; refine lh2 ?_; intro y2 UP
    generalize (W91.alloc (.cells #[.bool (Wd.ngb VV.num), .slice Ae0 ne0 ce0, .slice Ae0d ne0d ce0d] 24)) = W92 at *
    clear b0_0 b0_1 b1_0 b1_1 b2_0 b2_1 b2_2 x7_0 x7_1 x8_0 x8_1 x8_2 x9_0 x9_1 x10_0 x10_1 y1_0 y1_1 y2_0 y2_1 y2_2
    obtain ⟨b0_0, b0_1⟩ := b0.c2
    obtain ⟨b1_0, b1_1⟩ := b1.c2
    obtain ⟨b2_0, b2_1, b2_2⟩ := b2.c3
    obtain ⟨x7_0, x7_1⟩ := x7.c2
    obtain ⟨x8_0, x8_1, x8_2⟩ := x8.c3
    obtain ⟨x9_0, x9_1⟩ := x9.c2
    obtain ⟨x10_0, x10_1⟩ := x10.c2
    obtain ⟨y1_0, y1_1⟩ := y1.c2
    obtain ⟨y2_0, y2_1, y2_2⟩ := y2.c3
    obtain ⟨x15_0, x15_1, x15_2⟩ := x15.c3
    have HTZ : Hid (decide (psz = []) = t0) := Lib.hid (by rw [← HT0.out]; exact decide_eq_decide.2 (caz.out.zero (by rw [Pq.nm_one]; simp)))
    have k5 : (tq == t0) = false := by rw [← HTQ.out, HT0.out]; cases t0 <;> rfl
    have k6 : (tv != tv) = false := bne_self_eq_false tv
    have la1 : psa.length ≤ 1000 := Nat.le_trans lea.out.1 (by omega)
    have la2 : qsa.length ≤ 1000 := Nat.le_trans lea.out.2 (by omega)
    revert fp' fq' FZ a ae kz kzd x xe n ne zr; refine lg12 (Up.refl W92).drew ?_; intro fp' fq' FZ a ae kz kzd x xe n ne zr; revert ze QV b0 b1 b2 x7 x8 x9 x10 y1 e0 e0d; refine lg12 (Up.refl W92).drew ?_; intro ze QV b0 b1 b2 x7 x8 x9 x10 y1 e0 e0d; revert x15 y2 UP b0_0 b0_1 b1_0 b1_1 b2_0 b2_1 b2_2 x7_0 x7_1; refine lg12 (Up.refl W92).drew ?_; intro x15 y2 UP b0_0 b0_1 b1_0 b1_1 b2_0 b2_1 b2_2 x7_0 x7_1; revert x8_0 x8_1 x8_2 x9_0 x9_1 x10_0 x10_1 y1_0 y1_1 y2_0 y2_1 y2_2; refine lg12 (Up.refl W92).drew ?_; intro x8_0 x8_1 x8_2 x9_0 x9_1 x10_0 x10_1 y1_0 y1_1 y2_0 y2_1 y2_2; revert x15_0 x15_1 x15_2; refine lg3 (Up.refl W92).drew ?_; intro x15_0 x15_1 x15_2
    refine wp_region_noPanic ?_
    refine wp_region_held_drew (S := fun w' => Up w w' ∧ w'.cell? ⟨W51.heap.size, 0, none⟩ = some (.slice Aa psa.length ca) ∧ w'.cell? ⟨W51.heap.size, 1, none⟩ = some (.slice Aae qsa.length cae) ∧ w'.cell? ⟨W55.heap.size, 0, none⟩ = some (.slice Ax p.length cx) ∧ w'.cell? ⟨W55.heap.size, 1, none⟩ = some (.slice Axe q.length cxe) ∧ w'.cell? ⟨W57.heap.size, 0, none⟩ = some (.slice An psn.length cn) ∧ w'.cell? ⟨W57.heap.size, 1, none⟩ = some (.slice Ane qsn.length cne) ∧ w'.cell? ⟨g12, 0, none⟩ = some (.slice Az psz.length cz) ∧ w'.cell? ⟨g12, 1, none⟩ = some (.slice Bz qsz.length dz) ∧ w'.cell? ⟨g13, 0, none⟩ = some (.bool (Wd.ngb VV.num)) ∧ w'.cell? ⟨g13, 1, none⟩ = some (.slice Av nv cv) ∧ w'.cell? ⟨g13, 2, none⟩ = some (.slice Bv mv dv) ∧ w'.cell? ⟨W91.heap.size, 0, none⟩ = some (.bool (Wd.ngb VV.num)) ∧ w'.cell? ⟨W91.heap.size, 1, none⟩ = some (.slice Ae0 ne0 ce0) ∧ w'.cell? ⟨W91.heap.size, 2, none⟩ = some (.slice Ae0d ne0d ce0d)) (by kernel_rfl) ?_ (fun hHeld => ?_)
    · with_reducible exact ⟨UP, x7_0, x7_1, x9_0, x9_1, x10_0, x10_1, y1_0, y1_1, y2_0, y2_1, y2_2, x15_0, x15_1, x15_2⟩
    refine tk 0 ?_
    try simp only [gs, Act.put]
    refine tk 2 ?_
    try simp only [gs, Act.put]
    refine rd 1 (fun K hK => ?_)
    go_simp
    (first
      | (go_at_call 69
         ((with_reducible refine (ratf_norm x.fs xe.fs lp4 lq4 (by omega) (by omega) LPQ.out (K := 80) (by omega) (by omega) (by omega) (by omega) HP HD).mono ?_))
         rintro e W93 ⟨V93, U93, psr, qsr, rfl, r, re, car, lpr, ler, u93⟩
         obtain ⟨Ar, cr, rfl⟩ := r.form
         obtain ⟨Are, cre, rfl⟩ := re.form
         revert fp' fq' FZ a ae kz kzd x xe n ne zr; refine lg12 u93 ?_; intro fp' fq' FZ a ae kz kzd x xe n ne zr; revert ze QV b0 b1 b2 x7 x8 x9 x10 y1 e0 e0d; refine lg12 u93 ?_; intro ze QV b0 b1 b2 x7 x8 x9 x10 y1 e0 e0d; revert x15 y2 UP b0_0 b0_1 b1_0 b1_1 b2_0 b2_1 b2_2 x7_0 x7_1; refine lg12 u93 ?_; intro x15 y2 UP b0_0 b0_1 b1_0 b1_1 b2_0 b2_1 b2_2 x7_0 x7_1; revert x8_0 x8_1 x8_2 x9_0 x9_1 x10_0 x10_1 y1_0 y1_1 y2_0 y2_1 y2_2; refine lg12 u93 ?_; intro x8_0 x8_1 x8_2 x9_0 x9_1 x10_0 x10_1 y1_0 y1_1 y2_0 y2_1 y2_2; revert x15_0 x15_1 x15_2; refine lg3 u93 ?_; intro x15_0 x15_1 x15_2
         try (replace r := r.up u93)
         try (replace re := re.up u93)
         clear u93))
    try go_wp2_with fail
    try clear hHeld
    refine hK.out _ _ ?_ (fun hHeld => ?_)
    · with_reducible exact ⟨UP, x7_0, x7_1, x9_0, x9_1, x10_0, x10_1, y1_0, y1_1, y2_0, y2_1, y2_2, x15_0, x15_1, x15_2⟩
    clear hK K
    try simp only [gs, Act.put]
    refine rd 3 (fun K hK => ?_)
    go_simp
    (first
      | (go_at_call 68
         ((with_reducible refine (law_is15e r.q re.q (Lib.hid (car.out.unique DN.out caa.out)) (by omega) a.q ae.q la1 la2 (by omega)).mono ?_))
         rintro e W94 ⟨rfl, u94⟩
         revert fp' fq' FZ a ae kz kzd x xe n ne zr; refine lg12 u94 ?_; intro fp' fq' FZ a ae kz kzd x xe n ne zr; revert ze QV b0 b1 b2 x7 x8 x9 x10 y1 e0 e0d; refine lg12 u94 ?_; intro ze QV b0 b1 b2 x7 x8 x9 x10 y1 e0 e0d; revert x15 y2 UP b0_0 b0_1 b1_0 b1_1 b2_0 b2_1 b2_2 x7_0 x7_1; refine lg12 u94 ?_; intro x15 y2 UP b0_0 b0_1 b1_0 b1_1 b2_0 b2_1 b2_2 x7_0 x7_1; revert x8_0 x8_1 x8_2 x9_0 x9_1 x10_0 x10_1 y1_0 y1_1 y2_0 y2_1 y2_2; refine lg12 u94 ?_; intro x8_0 x8_1 x8_2 x9_0 x9_1 x10_0 x10_1 y1_0 y1_1 y2_0 y2_1 y2_2; revert x15_0 x15_1 x15_2; refine lg3 u94 ?_; intro x15_0 x15_1 x15_2
         try (replace r := r.up u94)
         try (replace re := re.up u94)
         clear u94))
    try go_wp2_with fail
    try clear hHeld
    refine hK.out _ _ ?_ (fun hHeld => ?_)
    · with_reducible exact ⟨UP, x7_0, x7_1, x9_0, x9_1, x10_0, x10_1, y1_0, y1_1, y2_0, y2_1, y2_2, x15_0, x15_1, x15_2⟩
    clear hK K
    try simp only [gs, Act.put]
    refine tk 4 ?_
    try simp only [gs, Act.put]
    refine tk 5 ?_
    try simp only [gs, Act.put]
    refine tk 6 ?_
    try simp only [gs, Act.put]
    refine tk 7 ?_
    try simp only [gs, Act.put]
    refine rd 8 (fun K hK => ?_)
    go_simp
    (first
      | (go_at_call 68
         ((with_reducible refine (law_is15e n.q ne.q HEN (by omega) a.q ae.q la1 la2 (by omega)).mono ?_))
         rintro e W95 ⟨rfl, u95⟩
         revert fp' fq' FZ a ae kz kzd x xe n ne zr; refine lg12 u95 ?_; intro fp' fq' FZ a ae kz kzd x xe n ne zr; revert ze QV b0 b1 b2 x7 x8 x9 x10 y1 e0 e0d; refine lg12 u95 ?_; intro ze QV b0 b1 b2 x7 x8 x9 x10 y1 e0 e0d; revert x15 y2 UP b0_0 b0_1 b1_0 b1_1 b2_0 b2_1 b2_2 x7_0 x7_1; refine lg12 u95 ?_; intro x15 y2 UP b0_0 b0_1 b1_0 b1_1 b2_0 b2_1 b2_2 x7_0 x7_1; revert x8_0 x8_1 x8_2 x9_0 x9_1 x10_0 x10_1 y1_0 y1_1 y2_0 y2_1 y2_2; refine lg12 u95 ?_; intro x8_0 x8_1 x8_2 x9_0 x9_1 x10_0 x10_1 y1_0 y1_1 y2_0 y2_1 y2_2; revert x15_0 x15_1 x15_2; refine lg3 u95 ?_; intro x15_0 x15_1 x15_2
         try (replace r := r.up u95)
         try (replace re := re.up u95)
         clear u95))
    try go_wp2_with fail
    try clear hHeld
    refine hK.out _ _ ?_ (fun hHeld => ?_)
    · with_reducible exact ⟨UP, x7_0, x7_1, x9_0, x9_1, x10_0, x10_1, y1_0, y1_1, y2_0, y2_1, y2_2, x15_0, x15_1, x15_2⟩
    clear hK K
    try simp only [gs, Act.put]
    refine tk 9 ?_
    try simp only [gs, Act.put]
    refine tk 10 ?_
    try simp only [gs, Act.put]
    refine tk 11 ?_
    try simp only [gs, Act.put]
    refine tk 12 ?_
    try simp only [gs, Act.put]
    refine tk 13 ?_
    try simp only [gs, Act.put]
    refine rd 14 (fun K hK => ?_)
    go_simp
    (first
      | (go_at_call 70
         ((with_reducible refine (ref_zero15 zr.q ze.q HTZ).mono ?_))
         rintro e W96 ⟨rfl, u96⟩
         revert fp' fq' FZ a ae kz kzd x xe n ne zr; refine lg12 u96 ?_; intro fp' fq' FZ a ae kz kzd x xe n ne zr; revert ze QV b0 b1 b2 x7 x8 x9 x10 y1 e0 e0d; refine lg12 u96 ?_; intro ze QV b0 b1 b2 x7 x8 x9 x10 y1 e0 e0d; revert x15 y2 UP b0_0 b0_1 b1_0 b1_1 b2_0 b2_1 b2_2 x7_0 x7_1; refine lg12 u96 ?_; intro x15 y2 UP b0_0 b0_1 b1_0 b1_1 b2_0 b2_1 b2_2 x7_0 x7_1; revert x8_0 x8_1 x8_2 x9_0 x9_1 x10_0 x10_1 y1_0 y1_1 y2_0 y2_1 y2_2; refine lg12 u96 ?_; intro x8_0 x8_1 x8_2 x9_0 x9_1 x10_0 x10_1 y1_0 y1_1 y2_0 y2_1 y2_2; revert x15_0 x15_1 x15_2; refine lg3 u96 ?_; intro x15_0 x15_1 x15_2
         try (replace r := r.up u96)
         try (replace re := re.up u96)
         clear u96))
    try go_wp2_with fail
    try clear hHeld
    refine hK.out _ _ ?_ (fun hHeld => ?_)
    · with_reducible exact ⟨UP, x7_0, x7_1, x9_0, x9_1, x10_0, x10_1, y1_0, y1_1, y2_0, y2_1, y2_2, x15_0, x15_1, x15_2⟩
    clear hK K
    try simp only [gs, Act.put]
    refine tk 15 ?_
    try simp only [gs, Act.put]
    refine tk 16 ?_
    try simp only [gs, Act.put]
    refine tk 17 ?_
    try simp only [gs, Act.put]
    refine tk 18 ?_
    try simp only [gs, Act.put]
    refine tk 19 ?_
    try simp only [gs, Act.put]
    refine rd 20 (fun K hK => ?_)
    go_simp
    (first
      | (go_at_call 32
         ((with_reducible refine (law_is9 QV (qw_of e0 e0d) LVV (by omega)).mono ?_))
         rintro e W97 ⟨rfl, u97⟩
         revert fp' fq' FZ a ae kz kzd x xe n ne zr; refine lg12 u97 ?_; intro fp' fq' FZ a ae kz kzd x xe n ne zr; revert ze QV b0 b1 b2 x7 x8 x9 x10 y1 e0 e0d; refine lg12 u97 ?_; intro ze QV b0 b1 b2 x7 x8 x9 x10 y1 e0 e0d; revert x15 y2 UP b0_0 b0_1 b1_0 b1_1 b2_0 b2_1 b2_2 x7_0 x7_1; refine lg12 u97 ?_; intro x15 y2 UP b0_0 b0_1 b1_0 b1_1 b2_0 b2_1 b2_2 x7_0 x7_1; revert x8_0 x8_1 x8_2 x9_0 x9_1 x10_0 x10_1 y1_0 y1_1 y2_0 y2_1 y2_2; refine lg12 u97 ?_; intro x8_0 x8_1 x8_2 x9_0 x9_1 x10_0 x10_1 y1_0 y1_1 y2_0 y2_1 y2_2; revert x15_0 x15_1 x15_2; refine lg3 u97 ?_; intro x15_0 x15_1 x15_2
         try (replace r := r.up u97)
         try (replace re := re.up u97)
         clear u97))
    try go_wp2_with fail
    try clear hHeld
    refine hK.out _ _ ?_ (fun hHeld => ?_)
    · with_reducible exact ⟨UP, x7_0, x7_1, x9_0, x9_1, x10_0, x10_1, y1_0, y1_1, y2_0, y2_1, y2_2, x15_0, x15_1, x15_2⟩
    clear hK K
    try simp only [gs, Act.put]
    refine tk 21 ?_
    try simp only [gs, Act.put]
    refine tk 22 ?_
    try simp only [gs, Act.put]
    refine tk 23 ?_
    try simp only [gs, Act.put]
    refine tk 24 ?_
    try simp only [gs, Act.put]
    refine tk 25 ?_
    try simp only [gs, Act.put]
    refine tk 26 ?_
    try simp only [gs, Act.put]
    refine tk 27 ?_
    try simp only [gs, Act.put]
    refine wpAnyH_done (by kernel_rfl) ?_ _
    refine NoPanic.normal ?_
    clear hHeld
    clear r re n ne zr ze QV e0 e0d
    obtain ⟨tp, HTP⟩ : ∃ t, Hid (decide (Pq.nm P = []) = t) := ⟨_, Lib.hid rfl⟩
    have HTA : Hid (decide (psa = []) = tp) := Lib.hid (by rw [← HTP.out]; exact decide_eq_decide.2 (caa.out.zero DN.out))
    obtain ⟨ts, HTS⟩ : ∃ t, Hid (decide (Pq.nm (Pq.nm (Pq.mul P D')) = Pq.nm (Pq.nm (Pq.mul P' D))) = t) := ⟨_, Lib.hid rfl⟩
    have k7 : (tp == tp) = true := beq_self_eq_true tp
    have k8 : (ts == ts) = true := beq_self_eq_true ts
    obtain ⟨RZ, HRZ⟩ : ∃ R, Hid (Pq.nm [z] = R) := ⟨_, Lib.hid rfl⟩
    have lRZ : RZ.length ≤ 1000 := by rw [← HRZ.out]; exact Nat.le_trans (Pq.nm_len _) (by simp)
    have HAD := Lib.hid (Pq.nmul_ne caa.out.nd caa.out.nd)
    have HND := Lib.hid caa.out.nd
    have LZ2 := LZ.mono (show 1 ≤ 2 by omega)
    go_wp2_with fail
    revert fp' fq' FZ a ae kz kzd x xe b0 b1 b2; refine lg12 (Up.refl W97).drew ?_; intro fp' fq' FZ a ae kz kzd x xe b0 b1 b2; revert x7 x8 x9 x10 y1 x15 y2 UP b0_0 b0_1 b1_0 b1_1; refine lg12 (Up.refl W97).drew ?_; intro x7 x8 x9 x10 y1 x15 y2 UP b0_0 b0_1 b1_0 b1_1; revert b2_0 b2_1 b2_2 x7_0 x7_1 x8_0 x8_1 x8_2 x9_0 x9_1 x10_0 x10_1; refine lg12 (Up.refl W97).drew ?_; intro b2_0 b2_1 b2_2 x7_0 x7_1 x8_0 x8_1 x8_2 x9_0 x9_1 x10_0 x10_1; revert y1_0 y1_1 y2_0 y2_1 y2_2 x15_0 x15_1 x15_2; refine lg8 (Up.refl W97).drew ?_; intro y1_0 y1_1 y2_0 y2_1 y2_2 x15_0 x15_1 x15_2
    refine wp_region_noPanic ?_
    refine wp_region_held_drew (S := fun w' => Up w w' ∧ w'.cell? ⟨w.heap.size + 1, 0, none⟩ = some (.slice A2 p'.length c2) ∧ w'.cell? ⟨w.heap.size + 1, 1, none⟩ = some (.slice B2 q'.length d2) ∧ w'.cell? ⟨w.heap.size + 1 + 1, 0, none⟩ = some (.bool s) ∧ w'.cell? ⟨w.heap.size + 1 + 1, 1, none⟩ = some (.slice A3 l.length c3) ∧ w'.cell? ⟨w.heap.size + 1 + 1, 2, none⟩ = some (.slice B3 m.length d3) ∧ w'.cell? ⟨W51.heap.size, 0, none⟩ = some (.slice Aa psa.length ca) ∧ w'.cell? ⟨W51.heap.size, 1, none⟩ = some (.slice Aae qsa.length cae) ∧ w'.cell? ⟨W53.heap.size, 0, none⟩ = some (.bool (Wd.ngb z.num)) ∧ w'.cell? ⟨W53.heap.size, 1, none⟩ = some (.slice Akz nkz ckz) ∧ w'.cell? ⟨W53.heap.size, 2, none⟩ = some (.slice Akzd nkzd ckzd) ∧ w'.cell? ⟨W55.heap.size, 0, none⟩ = some (.slice Ax p.length cx) ∧ w'.cell? ⟨W55.heap.size, 1, none⟩ = some (.slice Axe q.length cxe)) (by kernel_rfl) ?_ (fun hHeld => ?_)
    · with_reducible exact ⟨UP, b1_0, b1_1, b2_0, b2_1, b2_2, x7_0, x7_1, x8_0, x8_1, x8_2, x9_0, x9_1⟩
    refine tk 0 ?_
    try simp only [gs, Act.put]
    refine tk 2 ?_
    try simp only [gs, Act.put]
    refine rd 1 (fun K hK => ?_)
    go_simp
    (first
      | (go_at_call 71
         ((with_reducible refine (ratf_zero x.fs xe.fs (by omega) (by omega) (by omega) (by omega) HP HD).mono ?_))
         rintro e W98 ⟨rfl, u98⟩
         revert fp' fq' FZ a ae kz kzd x xe b0 b1 b2; refine lg12 u98 ?_; intro fp' fq' FZ a ae kz kzd x xe b0 b1 b2; revert x7 x8 x9 x10 y1 x15 y2 UP b0_0 b0_1 b1_0 b1_1; refine lg12 u98 ?_; intro x7 x8 x9 x10 y1 x15 y2 UP b0_0 b0_1 b1_0 b1_1; revert b2_0 b2_1 b2_2 x7_0 x7_1 x8_0 x8_1 x8_2 x9_0 x9_1 x10_0 x10_1; refine lg12 u98 ?_; intro b2_0 b2_1 b2_2 x7_0 x7_1 x8_0 x8_1 x8_2 x9_0 x9_1 x10_0 x10_1; revert y1_0 y1_1 y2_0 y2_1 y2_2 x15_0 x15_1 x15_2; refine lg8 u98 ?_; intro y1_0 y1_1 y2_0 y2_1 y2_2 x15_0 x15_1 x15_2
         try (replace y := y.up u98)
         try (replace ye := ye.up u98)
         try (replace b := b.up u98)
         try (replace be := be.up u98)
         try (replace d0 := d0.up u98)
         try (replace de := de.up u98)
         try (replace f0 := f0.up u98)
         try (replace fe := fe.up u98)
         try (replace o1 := o1.up u98)
         try (replace o1e := o1e.up u98)
         try (replace o2 := o2.up u98)
         try (replace o2e := o2e.up u98)
         clear u98
         rw [HTP.out]))
    try go_wp2_with fail
    try clear hHeld
    refine hK.out _ _ ?_ (fun hHeld => ?_)
    · with_reducible exact ⟨UP, b1_0, b1_1, b2_0, b2_1, b2_2, x7_0, x7_1, x8_0, x8_1, x8_2, x9_0, x9_1⟩
    clear hK K
    try simp only [gs, Act.put]
    refine rd 3 (fun K hK => ?_)
    go_simp
    (first
      | (go_at_call 70
         ((with_reducible refine (ref_zero15 a.q ae.q HTA).mono ?_))
         rintro e W99 ⟨rfl, u99⟩
         revert fp' fq' FZ a ae kz kzd x xe b0 b1 b2; refine lg12 u99 ?_; intro fp' fq' FZ a ae kz kzd x xe b0 b1 b2; revert x7 x8 x9 x10 y1 x15 y2 UP b0_0 b0_1 b1_0 b1_1; refine lg12 u99 ?_; intro x7 x8 x9 x10 y1 x15 y2 UP b0_0 b0_1 b1_0 b1_1; revert b2_0 b2_1 b2_2 x7_0 x7_1 x8_0 x8_1 x8_2 x9_0 x9_1 x10_0 x10_1; refine lg12 u99 ?_; intro b2_0 b2_1 b2_2 x7_0 x7_1 x8_0 x8_1 x8_2 x9_0 x9_1 x10_0 x10_1; revert y1_0 y1_1 y2_0 y2_1 y2_2 x15_0 x15_1 x15_2; refine lg8 u99 ?_; intro y1_0 y1_1 y2_0 y2_1 y2_2 x15_0 x15_1 x15_2
         try (replace y := y.up u99)
         try (replace ye := ye.up u99)
         try (replace b := b.up u99)
         try (replace be := be.up u99)
         try (replace d0 := d0.up u99)
         try (replace de := de.up u99)
         try (replace f0 := f0.up u99)
         try (replace fe := fe.up u99)
         try (replace o1 := o1.up u99)
         try (replace o1e := o1e.up u99)
         try (replace o2 := o2.up u99)
         try (replace o2e := o2e.up u99)
         clear u99))
    try go_wp2_with fail
    try clear hHeld
    refine hK.out _ _ ?_ (fun hHeld => ?_)
    · with_reducible exact ⟨UP, b1_0, b1_1, b2_0, b2_1, b2_2, x7_0, x7_1, x8_0, x8_1, x8_2, x9_0, x9_1⟩
    clear hK K
    try simp only [gs, Act.put]
    refine tk 4 ?_
    try simp only [gs, Act.put]
    refine tk 5 ?_
    try simp only [gs, Act.put]
    refine tk 6 ?_
    try simp only [gs, Act.put]
    refine tk 7 ?_
    try simp only [gs, Act.put]
    refine tk 10 ?_
    try simp only [gs, Act.put]
    refine tk 11 ?_
    try simp only [gs, Act.put]
    refine rd 8 (fun K hK => ?_)
    go_simp
    (first
      | (go_at_call 62
         ((with_reducible refine (law_to15 fp' fq' (by omega) (by omega)).mono ?_))
         rintro e W100 ⟨V100, U100, rfl, y, ye, u100⟩
         obtain ⟨Ay, cy, rfl⟩ := y.form
         obtain ⟨Aye, cye, rfl⟩ := ye.form
         try simp only [List.length_cons, List.length_nil, Nat.zero_add] at ye
         revert fp' fq' FZ a ae kz kzd x xe b0 b1 b2; refine lg12 u100 ?_; intro fp' fq' FZ a ae kz kzd x xe b0 b1 b2; revert x7 x8 x9 x10 y1 x15 y2 UP b0_0 b0_1 b1_0 b1_1; refine lg12 u100 ?_; intro x7 x8 x9 x10 y1 x15 y2 UP b0_0 b0_1 b1_0 b1_1; revert b2_0 b2_1 b2_2 x7_0 x7_1 x8_0 x8_1 x8_2 x9_0 x9_1 x10_0 x10_1; refine lg12 u100 ?_; intro b2_0 b2_1 b2_2 x7_0 x7_1 x8_0 x8_1 x8_2 x9_0 x9_1 x10_0 x10_1; revert y1_0 y1_1 y2_0 y2_1 y2_2 x15_0 x15_1 x15_2; refine lg8 u100 ?_; intro y1_0 y1_1 y2_0 y2_1 y2_2 x15_0 x15_1 x15_2
         try (replace y := y.up u100)
         try (replace ye := ye.up u100)
         try (replace b := b.up u100)
         try (replace be := be.up u100)
         try (replace d0 := d0.up u100)
         try (replace de := de.up u100)
         try (replace f0 := f0.up u100)
         try (replace fe := fe.up u100)
         try (replace o1 := o1.up u100)
         try (replace o1e := o1e.up u100)
         try (replace o2 := o2.up u100)
         try (replace o2e := o2e.up u100)
         clear u100))
    try go_wp2_with fail
    try clear hHeld
    refine hK.out _ _ ?_ (fun hHeld => ?_)
    · with_reducible exact ⟨UP, b1_0, b1_1, b2_0, b2_1, b2_2, x7_0, x7_1, x8_0, x8_1, x8_2, x9_0, x9_1⟩
    clear hK K
    try simp only [gs, Act.put]
    refine rd 9 (fun K hK => ?_)
    go_simp
    (first
      | (go_at_call 72
         ((with_reducible refine (ratf_same (k := 2) x.fs xe.fs lp4 lq4 (by omega) LPQ.out y.fs ye.fs lp4' lq4' (by omega) LPQ'.out (by omega) (by omega) (by omega) (by omega) HP HD HP' HD' HTS).mono ?_))
         rintro e W101 ⟨rfl, u101⟩
         revert fp' fq' FZ a ae kz kzd x xe b0 b1 b2; refine lg12 u101 ?_; intro fp' fq' FZ a ae kz kzd x xe b0 b1 b2; revert x7 x8 x9 x10 y1 x15 y2 UP b0_0 b0_1 b1_0 b1_1; refine lg12 u101 ?_; intro x7 x8 x9 x10 y1 x15 y2 UP b0_0 b0_1 b1_0 b1_1; revert b2_0 b2_1 b2_2 x7_0 x7_1 x8_0 x8_1 x8_2 x9_0 x9_1 x10_0 x10_1; refine lg12 u101 ?_; intro b2_0 b2_1 b2_2 x7_0 x7_1 x8_0 x8_1 x8_2 x9_0 x9_1 x10_0 x10_1; revert y1_0 y1_1 y2_0 y2_1 y2_2 x15_0 x15_1 x15_2; refine lg8 u101 ?_; intro y1_0 y1_1 y2_0 y2_1 y2_2 x15_0 x15_1 x15_2
         try (replace y := y.up u101)
         try (replace ye := ye.up u101)
         try (replace b := b.up u101)
         try (replace be := be.up u101)
         try (replace d0 := d0.up u101)
         try (replace de := de.up u101)
         try (replace f0 := f0.up u101)
         try (replace fe := fe.up u101)
         try (replace o1 := o1.up u101)
         try (replace o1e := o1e.up u101)
         try (replace o2 := o2.up u101)
         try (replace o2e := o2e.up u101)
         clear u101))
    try go_wp2_with fail
    try clear hHeld
    refine hK.out _ _ ?_ (fun hHeld => ?_)
    · with_reducible exact ⟨UP, b1_0, b1_1, b2_0, b2_1, b2_2, x7_0, x7_1, x8_0, x8_1, x8_2, x9_0, x9_1⟩
    clear hK K
    try simp only [gs, Act.put]
    refine rd 12 (fun K hK => ?_)
    go_simp
    (first
      | (go_at_call 61
         ((with_reducible refine (ref_norm15 (m := 4) (ka := 2) (j := 9) (K := 80) (DD := 485) (Z := 2505) fp' fq' lp4' lq4' (by omega) (by omega) LPQ'.out (by omega) (by omega) (by omega) (by omega) (by omega) HP' HD').mono ?_))
         rintro e W102 ⟨V102, U102, psb, qsb, rfl, b, be, cab, lpb, leb, u102⟩
         obtain ⟨Ab, cb, rfl⟩ := b.form
         obtain ⟨Abe, cbe, rfl⟩ := be.form
         revert fp' fq' FZ a ae kz kzd x xe b0 b1 b2; refine lg12 u102 ?_; intro fp' fq' FZ a ae kz kzd x xe b0 b1 b2; revert x7 x8 x9 x10 y1 x15 y2 UP b0_0 b0_1 b1_0 b1_1; refine lg12 u102 ?_; intro x7 x8 x9 x10 y1 x15 y2 UP b0_0 b0_1 b1_0 b1_1; revert b2_0 b2_1 b2_2 x7_0 x7_1 x8_0 x8_1 x8_2 x9_0 x9_1 x10_0 x10_1; refine lg12 u102 ?_; intro b2_0 b2_1 b2_2 x7_0 x7_1 x8_0 x8_1 x8_2 x9_0 x9_1 x10_0 x10_1; revert y1_0 y1_1 y2_0 y2_1 y2_2 x15_0 x15_1 x15_2; refine lg8 u102 ?_; intro y1_0 y1_1 y2_0 y2_1 y2_2 x15_0 x15_1 x15_2
         try (replace y := y.up u102)
         try (replace ye := ye.up u102)
         try (replace b := b.up u102)
         try (replace be := be.up u102)
         try (replace d0 := d0.up u102)
         try (replace de := de.up u102)
         try (replace f0 := f0.up u102)
         try (replace fe := fe.up u102)
         try (replace o1 := o1.up u102)
         try (replace o1e := o1e.up u102)
         try (replace o2 := o2.up u102)
         try (replace o2e := o2e.up u102)
         clear u102))
    try go_wp2_with fail
    try clear hHeld
    refine hK.out _ _ ?_ (fun hHeld => ?_)
    · with_reducible exact ⟨UP, b1_0, b1_1, b2_0, b2_1, b2_2, x7_0, x7_1, x8_0, x8_1, x8_2, x9_0, x9_1⟩
    clear hK K
    try simp only [gs, Act.put]
    refine rd 13 (fun K hK => ?_)
    go_simp
    (first
      | (go_at_call 73
         ((with_reducible refine (ref_same15 (k := 80) a.q ae.q b.q be.q la1 la2 (Nat.le_trans leb.out.1 (by omega)) (Nat.le_trans leb.out.2 (by omega)) (by omega) (Lib.hid ((Pq.can_same DN.out DN'.out caa.out cab.out).symm.trans HTS.out))).mono ?_))
         rintro e W103 ⟨rfl, u103⟩
         revert fp' fq' FZ a ae kz kzd x xe b0 b1 b2; refine lg12 u103 ?_; intro fp' fq' FZ a ae kz kzd x xe b0 b1 b2; revert x7 x8 x9 x10 y1 x15 y2 UP b0_0 b0_1 b1_0 b1_1; refine lg12 u103 ?_; intro x7 x8 x9 x10 y1 x15 y2 UP b0_0 b0_1 b1_0 b1_1; revert b2_0 b2_1 b2_2 x7_0 x7_1 x8_0 x8_1 x8_2 x9_0 x9_1 x10_0 x10_1; refine lg12 u103 ?_; intro b2_0 b2_1 b2_2 x7_0 x7_1 x8_0 x8_1 x8_2 x9_0 x9_1 x10_0 x10_1; revert y1_0 y1_1 y2_0 y2_1 y2_2 x15_0 x15_1 x15_2; refine lg8 u103 ?_; intro y1_0 y1_1 y2_0 y2_1 y2_2 x15_0 x15_1 x15_2
         try (replace y := y.up u103)
         try (replace ye := ye.up u103)
         try (replace b := b.up u103)
         try (replace be := be.up u103)
         try (replace d0 := d0.up u103)
         try (replace de := de.up u103)
         try (replace f0 := f0.up u103)
         try (replace fe := fe.up u103)
         try (replace o1 := o1.up u103)
         try (replace o1e := o1e.up u103)
         try (replace o2 := o2.up u103)
         try (replace o2e := o2e.up u103)
         clear u103))
    try go_wp2_with fail
    try clear hHeld
    refine hK.out _ _ ?_ (fun hHeld => ?_)
    · with_reducible exact ⟨UP, b1_0, b1_1, b2_0, b2_1, b2_2, x7_0, x7_1, x8_0, x8_1, x8_2, x9_0, x9_1⟩
    clear hK K
    try simp only [gs, Act.put]
    refine tk 14 ?_
    try simp only [gs, Act.put]
    refine tk 15 ?_
    try simp only [gs, Act.put]
    refine tk 16 ?_
    try simp only [gs, Act.put]
    refine tk 17 ?_
    try simp only [gs, Act.put]
    refine tk 19 ?_
    try simp only [gs, Act.put]
    refine rd 18 (fun K hK => ?_)
    go_simp
    (first
      | (go_at_call 74
         ((with_reducible refine (ratf_diff x.fs xe.fs lp4 lq4 (by omega) LPQ.out 7 (by omega) (by omega) (K := 280) (by omega) (by omega) (by omega) (by omega) HP HD).mono ?_))
         rintro e W104 ⟨V104, U104, psd0, qsd0, rfl, d0, de, cad0, lpd0, led0, u104⟩
         obtain ⟨Ad0, cd0, rfl⟩ := d0.form
         obtain ⟨Ade, cde, rfl⟩ := de.form
         revert fp' fq' FZ a ae kz kzd x xe b0 b1 b2; refine lg12 u104 ?_; intro fp' fq' FZ a ae kz kzd x xe b0 b1 b2; revert x7 x8 x9 x10 y1 x15 y2 UP b0_0 b0_1 b1_0 b1_1; refine lg12 u104 ?_; intro x7 x8 x9 x10 y1 x15 y2 UP b0_0 b0_1 b1_0 b1_1; revert b2_0 b2_1 b2_2 x7_0 x7_1 x8_0 x8_1 x8_2 x9_0 x9_1 x10_0 x10_1; refine lg12 u104 ?_; intro b2_0 b2_1 b2_2 x7_0 x7_1 x8_0 x8_1 x8_2 x9_0 x9_1 x10_0 x10_1; revert y1_0 y1_1 y2_0 y2_1 y2_2 x15_0 x15_1 x15_2; refine lg8 u104 ?_; intro y1_0 y1_1 y2_0 y2_1 y2_2 x15_0 x15_1 x15_2
         try (replace y := y.up u104)
         try (replace ye := ye.up u104)
         try (replace b := b.up u104)
         try (replace be := be.up u104)
         try (replace d0 := d0.up u104)
         try (replace de := de.up u104)
         try (replace f0 := f0.up u104)
         try (replace fe := fe.up u104)
         try (replace o1 := o1.up u104)
         try (replace o1e := o1e.up u104)
         try (replace o2 := o2.up u104)
         try (replace o2e := o2e.up u104)
         clear u104))
    try go_wp2_with fail
    try clear hHeld
    refine hK.out _ _ ?_ (fun hHeld => ?_)
    · with_reducible exact ⟨UP, b1_0, b1_1, b2_0, b2_1, b2_2, x7_0, x7_1, x8_0, x8_1, x8_2, x9_0, x9_1⟩
    clear hK K
    try simp only [gs, Act.put]
    refine rd 20 (fun K hK => ?_)
    go_simp
    (first
      | (go_at_call 75
         ((with_reducible refine (ref_diff15 (k := 80) a.q ae.q lea.out.1 lea.out.2 (by omega) lpa.out 7 (by omega) (by omega) (K := 2268) (DD := 20420) (Z := 165628) (by omega) (by omega) (by omega) (by omega) (by omega) HND).mono ?_))
         rintro e W105 ⟨V105, U105, psf0, qsf0, rfl, f0, fe, caf0, lpf0, lef0, u105⟩
         obtain ⟨Af0, cf0, rfl⟩ := f0.form
         obtain ⟨Afe, cfe, rfl⟩ := fe.form
         revert fp' fq' FZ a ae kz kzd x xe b0 b1 b2; refine lg12 u105 ?_; intro fp' fq' FZ a ae kz kzd x xe b0 b1 b2; revert x7 x8 x9 x10 y1 x15 y2 UP b0_0 b0_1 b1_0 b1_1; refine lg12 u105 ?_; intro x7 x8 x9 x10 y1 x15 y2 UP b0_0 b0_1 b1_0 b1_1; revert b2_0 b2_1 b2_2 x7_0 x7_1 x8_0 x8_1 x8_2 x9_0 x9_1 x10_0 x10_1; refine lg12 u105 ?_; intro b2_0 b2_1 b2_2 x7_0 x7_1 x8_0 x8_1 x8_2 x9_0 x9_1 x10_0 x10_1; revert y1_0 y1_1 y2_0 y2_1 y2_2 x15_0 x15_1 x15_2; refine lg8 u105 ?_; intro y1_0 y1_1 y2_0 y2_1 y2_2 x15_0 x15_1 x15_2
         try (replace y := y.up u105)
         try (replace ye := ye.up u105)
         try (replace b := b.up u105)
         try (replace be := be.up u105)
         try (replace d0 := d0.up u105)
         try (replace de := de.up u105)
         try (replace f0 := f0.up u105)
         try (replace fe := fe.up u105)
         try (replace o1 := o1.up u105)
         try (replace o1e := o1e.up u105)
         try (replace o2 := o2.up u105)
         try (replace o2e := o2e.up u105)
         clear u105))
    try go_wp2_with fail
    try clear hHeld
    refine hK.out _ _ ?_ (fun hHeld => ?_)
    · with_reducible exact ⟨UP, b1_0, b1_1, b2_0, b2_1, b2_2, x7_0, x7_1, x8_0, x8_1, x8_2, x9_0, x9_1⟩
    clear hK K
    try simp only [gs, Act.put]
    refine rd 21 (fun K hK => ?_)
    go_simp
    (first
      | (go_at_call 68
         ((with_reducible refine (law_is15e d0.q de.q (Lib.hid ((Pq.Can.der DN.out caa.out cad0.out).unique HAD.out caf0.out)) (show 280 ≤ 2268 by omega) f0.q fe.q (Nat.le_trans lef0.out.1 (by omega)) (Nat.le_trans lef0.out.2 (by omega)) (by omega)).mono ?_))
         rintro e W106 ⟨rfl, u106⟩
         revert fp' fq' FZ a ae kz kzd x xe b0 b1 b2; refine lg12 u106 ?_; intro fp' fq' FZ a ae kz kzd x xe b0 b1 b2; revert x7 x8 x9 x10 y1 x15 y2 UP b0_0 b0_1 b1_0 b1_1; refine lg12 u106 ?_; intro x7 x8 x9 x10 y1 x15 y2 UP b0_0 b0_1 b1_0 b1_1; revert b2_0 b2_1 b2_2 x7_0 x7_1 x8_0 x8_1 x8_2 x9_0 x9_1 x10_0 x10_1; refine lg12 u106 ?_; intro b2_0 b2_1 b2_2 x7_0 x7_1 x8_0 x8_1 x8_2 x9_0 x9_1 x10_0 x10_1; revert y1_0 y1_1 y2_0 y2_1 y2_2 x15_0 x15_1 x15_2; refine lg8 u106 ?_; intro y1_0 y1_1 y2_0 y2_1 y2_2 x15_0 x15_1 x15_2
         try (replace y := y.up u106)
         try (replace ye := ye.up u106)
         try (replace b := b.up u106)
         try (replace be := be.up u106)
         try (replace d0 := d0.up u106)
         try (replace de := de.up u106)
         try (replace f0 := f0.up u106)
         try (replace fe := fe.up u106)
         try (replace o1 := o1.up u106)
         try (replace o1e := o1e.up u106)
         try (replace o2 := o2.up u106)
         try (replace o2e := o2e.up u106)
         clear u106))
    try go_wp2_with fail
    try clear hHeld
    refine hK.out _ _ ?_ (fun hHeld => ?_)
    · with_reducible exact ⟨UP, b1_0, b1_1, b2_0, b2_1, b2_2, x7_0, x7_1, x8_0, x8_1, x8_2, x9_0, x9_1⟩
    clear hK K
    try simp only [gs, Act.put]
    refine tk 22 ?_
    try simp only [gs, Act.put]
    refine tk 23 ?_
    try simp only [gs, Act.put]
    refine tk 24 ?_
    try simp only [gs, Act.put]
    refine tk 27 ?_
    try simp only [gs, Act.put]
    refine rd 25 (fun K hK => ?_)
    go_simp
    (first
      | (go_at_call 26
         ((with_reducible refine (law_to9 _ _ _ _ _ _ _ _).mono ?_))
         rintro e W107 ⟨rfl, u107⟩
         revert fp' fq' FZ a ae kz kzd x xe b0 b1 b2; refine lg12 u107 ?_; intro fp' fq' FZ a ae kz kzd x xe b0 b1 b2; revert x7 x8 x9 x10 y1 x15 y2 UP b0_0 b0_1 b1_0 b1_1; refine lg12 u107 ?_; intro x7 x8 x9 x10 y1 x15 y2 UP b0_0 b0_1 b1_0 b1_1; revert b2_0 b2_1 b2_2 x7_0 x7_1 x8_0 x8_1 x8_2 x9_0 x9_1 x10_0 x10_1; refine lg12 u107 ?_; intro b2_0 b2_1 b2_2 x7_0 x7_1 x8_0 x8_1 x8_2 x9_0 x9_1 x10_0 x10_1; revert y1_0 y1_1 y2_0 y2_1 y2_2 x15_0 x15_1 x15_2; refine lg8 u107 ?_; intro y1_0 y1_1 y2_0 y2_1 y2_2 x15_0 x15_1 x15_2
         try (replace y := y.up u107)
         try (replace ye := ye.up u107)
         try (replace b := b.up u107)
         try (replace be := be.up u107)
         try (replace d0 := d0.up u107)
         try (replace de := de.up u107)
         try (replace f0 := f0.up u107)
         try (replace fe := fe.up u107)
         try (replace o1 := o1.up u107)
         try (replace o1e := o1e.up u107)
         try (replace o2 := o2.up u107)
         try (replace o2e := o2e.up u107)
         clear u107))
    try go_wp2_with fail
    try clear hHeld
    refine hK.out _ _ ?_ (fun hHeld => ?_)
    · with_reducible exact ⟨UP, b1_0, b1_1, b2_0, b2_1, b2_2, x7_0, x7_1, x8_0, x8_1, x8_2, x9_0, x9_1⟩
    clear hK K
    try simp only [gs, Act.put]
    refine rd 26 (fun K hK => ?_)
    go_simp
    (first
      | (go_at_call 76
         ((with_reducible refine (ratf_of (FZ.mono (show 1 ≤ 2 by omega)) (by omega) (by omega) HRZ).mono ?_))
         rintro e W108 ⟨V108, U108, rfl, o1, o1e, u108⟩
         obtain ⟨Ao1, co1, rfl⟩ := o1.form
         obtain ⟨Ao1e, co1e, rfl⟩ := o1e.form
         try simp only [List.length_cons, List.length_nil, Nat.zero_add] at o1e
         revert fp' fq' FZ a ae kz kzd x xe b0 b1 b2; refine lg12 u108 ?_; intro fp' fq' FZ a ae kz kzd x xe b0 b1 b2; revert x7 x8 x9 x10 y1 x15 y2 UP b0_0 b0_1 b1_0 b1_1; refine lg12 u108 ?_; intro x7 x8 x9 x10 y1 x15 y2 UP b0_0 b0_1 b1_0 b1_1; revert b2_0 b2_1 b2_2 x7_0 x7_1 x8_0 x8_1 x8_2 x9_0 x9_1 x10_0 x10_1; refine lg12 u108 ?_; intro b2_0 b2_1 b2_2 x7_0 x7_1 x8_0 x8_1 x8_2 x9_0 x9_1 x10_0 x10_1; revert y1_0 y1_1 y2_0 y2_1 y2_2 x15_0 x15_1 x15_2; refine lg8 u108 ?_; intro y1_0 y1_1 y2_0 y2_1 y2_2 x15_0 x15_1 x15_2
         try (replace y := y.up u108)
         try (replace ye := ye.up u108)
         try (replace b := b.up u108)
         try (replace be := be.up u108)
         try (replace d0 := d0.up u108)
         try (replace de := de.up u108)
         try (replace f0 := f0.up u108)
         try (replace fe := fe.up u108)
         try (replace o1 := o1.up u108)
         try (replace o1e := o1e.up u108)
         try (replace o2 := o2.up u108)
         try (replace o2e := o2e.up u108)
         clear u108))
    try go_wp2_with fail
    try clear hHeld
    refine hK.out _ _ ?_ (fun hHeld => ?_)
    · with_reducible exact ⟨UP, b1_0, b1_1, b2_0, b2_1, b2_2, x7_0, x7_1, x8_0, x8_1, x8_2, x9_0, x9_1⟩
    clear hK K
    try simp only [gs, Act.put]
    refine rd 28 (fun K hK => ?_)
    go_simp
    (first
      | (go_at_call 64
         ((with_reducible refine (ref_of15 (qw_of kz kzd) LZ2 (by omega) (by omega) HRZ).mono ?_))
         rintro e W109 ⟨V109, U109, rfl, o2, o2e, u109⟩
         obtain ⟨Ao2, co2, rfl⟩ := o2.form
         obtain ⟨Ao2e, co2e, rfl⟩ := o2e.form
         try simp only [List.length_cons, List.length_nil, Nat.zero_add] at o2e
         revert fp' fq' FZ a ae kz kzd x xe b0 b1 b2; refine lg12 u109 ?_; intro fp' fq' FZ a ae kz kzd x xe b0 b1 b2; revert x7 x8 x9 x10 y1 x15 y2 UP b0_0 b0_1 b1_0 b1_1; refine lg12 u109 ?_; intro x7 x8 x9 x10 y1 x15 y2 UP b0_0 b0_1 b1_0 b1_1; revert b2_0 b2_1 b2_2 x7_0 x7_1 x8_0 x8_1 x8_2 x9_0 x9_1 x10_0 x10_1; refine lg12 u109 ?_; intro b2_0 b2_1 b2_2 x7_0 x7_1 x8_0 x8_1 x8_2 x9_0 x9_1 x10_0 x10_1; revert y1_0 y1_1 y2_0 y2_1 y2_2 x15_0 x15_1 x15_2; refine lg8 u109 ?_; intro y1_0 y1_1 y2_0 y2_1 y2_2 x15_0 x15_1 x15_2
         try (replace y := y.up u109)
         try (replace ye := ye.up u109)
         try (replace b := b.up u109)
         try (replace be := be.up u109)
         try (replace d0 := d0.up u109)
         try (replace de := de.up u109)
         try (replace f0 := f0.up u109)
         try (replace fe := fe.up u109)
         try (replace o1 := o1.up u109)
         try (replace o1e := o1e.up u109)
         try (replace o2 := o2.up u109)
         try (replace o2e := o2e.up u109)
         clear u109))
    try go_wp2_with fail
    try clear hHeld
    refine hK.out _ _ ?_ (fun hHeld => ?_)
    · with_reducible exact ⟨UP, b1_0, b1_1, b2_0, b2_1, b2_2, x7_0, x7_1, x8_0, x8_1, x8_2, x9_0, x9_1⟩
    clear hK K
    try simp only [gs, Act.put]
    refine rd 29 (fun K hK => ?_)
    go_simp
    (first
      | (go_at_call 68
         ((with_reducible refine (law_is15 o1.q o1e.q o2.q o2e.q lRZ (by simp) (by omega)).mono ?_))
         rintro e W110 ⟨rfl, u110⟩
         revert fp' fq' FZ a ae kz kzd x xe b0 b1 b2; refine lg12 u110 ?_; intro fp' fq' FZ a ae kz kzd x xe b0 b1 b2; revert x7 x8 x9 x10 y1 x15 y2 UP b0_0 b0_1 b1_0 b1_1; refine lg12 u110 ?_; intro x7 x8 x9 x10 y1 x15 y2 UP b0_0 b0_1 b1_0 b1_1; revert b2_0 b2_1 b2_2 x7_0 x7_1 x8_0 x8_1 x8_2 x9_0 x9_1 x10_0 x10_1; refine lg12 u110 ?_; intro b2_0 b2_1 b2_2 x7_0 x7_1 x8_0 x8_1 x8_2 x9_0 x9_1 x10_0 x10_1; revert y1_0 y1_1 y2_0 y2_1 y2_2 x15_0 x15_1 x15_2; refine lg8 u110 ?_; intro y1_0 y1_1 y2_0 y2_1 y2_2 x15_0 x15_1 x15_2
         try (replace y := y.up u110)
         try (replace ye := ye.up u110)
         try (replace b := b.up u110)
         try (replace be := be.up u110)
         try (replace d0 := d0.up u110)
         try (replace de := de.up u110)
         try (replace f0 := f0.up u110)
         try (replace fe := fe.up u110)
         try (replace o1 := o1.up u110)
         try (replace o1e := o1e.up u110)
         try (replace o2 := o2.up u110)
         try (replace o2e := o2e.up u110)
         clear u110))
    try go_wp2_with fail
    try clear hHeld
    refine hK.out _ _ ?_ (fun hHeld => ?_)
    · with_reducible exact ⟨UP, b1_0, b1_1, b2_0, b2_1, b2_2, x7_0, x7_1, x8_0, x8_1, x8_2, x9_0, x9_1⟩
    clear hK K
    try simp only [gs, Act.put]
    refine tk 30 ?_
    try simp only [gs, Act.put]
    refine tk 31 ?_
    try simp only [gs, Act.put]
    refine rd 32 (fun K hK => ?_)
    go_simp
    (first
      | (go_at_call 60
         ((with_reducible refine (works15 _).mono ?_))
         rintro e W111 ⟨rfl, u111⟩
         revert fp' fq' FZ a ae kz kzd x xe b0 b1 b2; refine lg12 u111 ?_; intro fp' fq' FZ a ae kz kzd x xe b0 b1 b2; revert x7 x8 x9 x10 y1 x15 y2 UP b0_0 b0_1 b1_0 b1_1; refine lg12 u111 ?_; intro x7 x8 x9 x10 y1 x15 y2 UP b0_0 b0_1 b1_0 b1_1; revert b2_0 b2_1 b2_2 x7_0 x7_1 x8_0 x8_1 x8_2 x9_0 x9_1 x10_0 x10_1; refine lg12 u111 ?_; intro b2_0 b2_1 b2_2 x7_0 x7_1 x8_0 x8_1 x8_2 x9_0 x9_1 x10_0 x10_1; revert y1_0 y1_1 y2_0 y2_1 y2_2 x15_0 x15_1 x15_2; refine lg8 u111 ?_; intro y1_0 y1_1 y2_0 y2_1 y2_2 x15_0 x15_1 x15_2
         try (replace y := y.up u111)
         try (replace ye := ye.up u111)
         try (replace b := b.up u111)
         try (replace be := be.up u111)
         try (replace d0 := d0.up u111)
         try (replace de := de.up u111)
         try (replace f0 := f0.up u111)
         try (replace fe := fe.up u111)
         try (replace o1 := o1.up u111)
         try (replace o1e := o1e.up u111)
         try (replace o2 := o2.up u111)
         try (replace o2e := o2e.up u111)
         clear u111))
    try go_wp2_with fail
    try clear hHeld
    refine hK.out _ _ ?_ (fun hHeld => ?_)
    · with_reducible exact ⟨UP, b1_0, b1_1, b2_0, b2_1, b2_2, x7_0, x7_1, x8_0, x8_1, x8_2, x9_0, x9_1⟩
    clear hK K
    try simp only [gs, Act.put]
    refine tk 33 ?_
    try simp only [gs, Act.put]
    refine rd 34 (fun K hK => ?_)
    go_simp
    skip
    try go_wp2_with fail
    try clear hHeld
    refine hK.out _ _ ?_ (fun hHeld => ?_)
    · with_reducible exact ⟨UP, b1_0, b1_1, b2_0, b2_1, b2_2, x7_0, x7_1, x8_0, x8_1, x8_2, x9_0, x9_1⟩
    clear hK K
    try simp only [gs, Act.put]
    refine wpAnyH_done (by kernel_rfl) ?_ _
    refine NoPanic.normal ?_
    clear hHeld
    go_wp2_with fail
    go_ret
    exact ⟨rfl, UP⟩
end Go.Proofs.YtmmcffceeahemaaGreat
