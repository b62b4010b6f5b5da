/-
  Layer 36, the document's answers: the factor behind an error.
-/
import Derived.Test.YtmmcffceeahemaaGreatZsRefPace5
import Derived.Test.YtmmcffceeahemaaGreatZsPaceLaw
import Derived.Test.YtmmcffceeahemaaGreatZsPaceFac
set_option linter.unusedVariables false
set_option linter.unusedSimpArgs false
namespace Go.Proofs.YtmmcffceeahemaaGreat
open Go.RowKit
theorem field_abs8 (w : World) (s : Bool) (A : Option Addr) (n c : Nat) : (Instr.field 134 (.agg #[.bool s, .slice A n c]) 1).run Tryz.prog w = .ok (.slice A n c) w := by kernel_rfl
set_option maxRecDepth 100000 in
set_option maxHeartbeats 12800000 in
theorem ref_factor36 {s1 s2 s3 s4 s5 : Bool} {A1 A2 A3 A4 A5 D1 D2 D3 D4 D5 : Option Addr} {l1 l2 l3 l4 l5 m1 m2 m3 m4 m5 : List Nat} {c1 c2 c3 c4 c5 e1 e2 e3 e4 e5 : Nat} {fi mo : Int} {v : Value} {tol safe low high e : Rat} {k : Nat} {w : World} (M1 : Qw w (.agg #[.bool s1, .slice A1 l1.length c1, .slice D1 m1.length e1]) tol) (M2 : Qw w (.agg #[.bool s2, .slice A2 l2.length c2, .slice D2 m2.length e2]) safe) (M3 : Qw w (.agg #[.bool s3, .slice A3 l3.length c3, .slice D3 m3.length e3]) low) (M4 : Qw w (.agg #[.bool s4, .slice A4 l4.length c4, .slice D4 m4.length e4]) high) (L1 : Wd.Lq tol 1000) (L2 : Wd.Lq safe 1000) (L3 : Wd.Lq low 1000) (L4 : Wd.Lq high 1000) (h : Qw w v e) (LE : Wd.Lq e k) (hk : k ≤ 4000) (h1 : 1 ≤ fi) (h2 : fi ≤ 1024) (ht : Hid (0 ≤ tol)) (hs : Hid (0 < safe)) (he : Hid (0 ≤ e)) (hlh : Hid (low < high)) :
 Calls Tryz.prog 52 #[.agg #[.bool s1, .slice A1 l1.length c1, .slice D1 m1.length e1, .bool s2, .slice A2 l2.length c2, .slice D2 m2.length e2, .bool s3, .slice A3 l3.length c3, .slice D3 m3.length e3, .bool s4, .slice A4 l4.length c4, .slice D4 m4.length e4, .bool s5, .slice A5 l5.length c5, .slice D5 m5.length e5, .int .i64 fi, .int .i64 mo], v] w (RetQ (Pc.fac tol safe low high fi e) w) := by
 obtain ⟨X6, Y6, rfl, x6, xd6⟩ := h
 obtain ⟨A6, n6, c6, rfl⟩ := x6.shape
 obtain ⟨D6, p6, d6, rfl⟩ := xd6.shape
 have HDN : Hid (e ≠ 0 → 0 ≤ (safe * tol * (fi : Rat) / e).floor ∧ ((safe * tol * (fi : Rat) / e).floor : Rat) / (fi : Rat) = Pc.down (safe * tol / e) fi) := Lib.hid (fun h0 => Pc.down_nat h1 ht.out hs.out (Rat.lt_of_le_of_ne he.out (Ne.symm h0)))
 have LY : Wd.Lq (fi : Rat) 2 := lq_int (by omega)
 obtain ⟨y, HY⟩ : ∃ y, Hid ((fi : Rat) = y) := ⟨_, Lib.hid rfl⟩
 have LM := L2.mul L1
 have LDN := down_lq (LM.div LE) h1 h2
 have HFA : Hid (∀ X, Pc.down (safe * tol / e) fi = X → Pc.fac tol safe low high fi e = if e = 0 then high else if X < low then low else if high < X then high else X) := Lib.hid (fun X hX => by rw [← hX]; rfl)
 obtain ⟨Dn, HD⟩ : ∃ x, Hid (Pc.down (safe * tol / e) fi = x) := ⟨_, Lib.hid rfl⟩
 have HFX := Lib.hid (HFA.out Dn HD.out)
 clear HFA
 rw [HD.out] at LDN HDN
 rw [HY.out] at LY HDN
 obtain ⟨M, HM⟩ : ∃ x, Hid (safe * tol = x) := ⟨_, Lib.hid rfl⟩
 rw [HM.out] at LM HDN
 have LT := LM.mul LY
 obtain ⟨T, HT⟩ : ∃ x, Hid (M * y = x) := ⟨_, Lib.hid rfl⟩
 rw [HT.out] at LT HDN
 have LX := LT.div LE
 obtain ⟨X, HX⟩ : ∃ x, Hid (T / e = x) := ⟨_, Lib.hid rfl⟩
 rw [HX.out] at LX HDN
 have LF := Wd.Lq.floor LX
 obtain ⟨F, HF⟩ : ∃ F, Hid (X.floor = F) := ⟨_, Lib.hid rfl⟩
 rw [HF.out] at LF HDN
 obtain ⟨R, HR⟩ : ∃ x, Hid (Pc.fac tol safe low high fi e = x) := ⟨_, Lib.hid rfl⟩
 rw [HR.out] at HFX ⊢
 have hfield := field_abs8
 have UP : Up w (((w.alloc (.cells #[.bool s1, .slice A1 l1.length c1, .slice D1 m1.length e1, .bool s2, .slice A2 l2.length c2, .slice D2 m2.length e2, .bool s3, .slice A3 l3.length c3, .slice D3 m3.length e3, .bool s4, .slice A4 l4.length c4, .slice D4 m4.length e4, .bool s5, .slice A5 l5.length c5, .slice D5 m5.length e5, .int .i64 fi, .int .i64 mo] 26)).alloc (.cells #[.bool (Wd.ngb e.num), .slice A6 n6 c6, .slice D6 p6 d6] 24)).alloc (.cells #[.bool false, .slice none 0 0, .slice none 0 0] 24)) := (((Up.refl w).alloc _).alloc _).alloc _
 obtain ⟨b0, b1, r0⟩ := bx_three 26 24 24 w [.bool s1, .slice A1 l1.length c1, .slice D1 m1.length e1, .bool s2, .slice A2 l2.length c2, .slice D2 m2.length e2, .bool s3, .slice A3 l3.length c3, .slice D3 m3.length e3, .bool s4, .slice A4 l4.length c4, .slice D4 m4.length e4, .bool s5, .slice A5 l5.length c5, .slice D5 m5.length e5, .int .i64 fi, .int .i64 mo] [.bool (Wd.ngb e.num), .slice A6 n6 c6, .slice D6 p6 d6] [.bool false, .slice none 0 0, .slice none 0 0]
 go_enter Tryz.func52, Tryz.ntmps52
 go_wp2_with fail
 generalize (((w.alloc (.cells #[.bool s1, .slice A1 l1.length c1, .slice D1 m1.length e1, .bool s2, .slice A2 l2.length c2, .slice D2 m2.length e2, .bool s3, .slice A3 l3.length c3, .slice D3 m3.length e3, .bool s4, .slice A4 l4.length c4, .slice D4 m4.length e4, .bool s5, .slice A5 l5.length c5, .slice D5 m5.length e5, .int .i64 fi, .int .i64 mo] 26)).alloc (.cells #[.bool (Wd.ngb e.num), .slice A6 n6 c6, .slice D6 p6 d6] 24)).alloc (.cells #[.bool false, .slice none 0 0, .slice none 0 0] 24)) = W at *
 replace M1 := M1.up UP
 replace M2 := M2.up UP
 replace M3 := M3.up UP
 replace M4 := M4.up UP
 replace x6 := x6.up UP
 replace xd6 := xd6.up UP
 have b0_0 := b0.cell (i := 0) rfl
 have b0_1 := b0.cell (i := 1) rfl
 have b0_2 := b0.cell (i := 2) rfl
 have b0_3 := b0.cell (i := 3) rfl
 have b0_4 := b0.cell (i := 4) rfl
 have b0_5 := b0.cell (i := 5) rfl
 have b0_6 := b0.cell (i := 6) rfl
 have b0_7 := b0.cell (i := 7) rfl
 have b0_8 := b0.cell (i := 8) rfl
 have b0_9 := b0.cell (i := 9) rfl
 have b0_10 := b0.cell (i := 10) rfl
 have b0_11 := b0.cell (i := 11) rfl
 have b0_12 := b0.cell (i := 12) rfl
 have b0_13 := b0.cell (i := 13) rfl
 have b0_14 := b0.cell (i := 14) rfl
 have b0_15 := b0.cell (i := 15) rfl
 have b0_16 := b0.cell (i := 16) rfl
 obtain ⟨b1_0, b1_1, b1_2⟩ := b1.c3
 obtain ⟨r0_0, r0_1, r0_2⟩ := r0.c3
 have r0_f0 := r0.free 0
 have r0_f1 := r0.free 1
 have r0_f2 := r0.free 2
 go_wp2_with fail
 ((with_reducible refine (ref9_zero (qw_of2 x6 xd6)).mono ?_))
 rintro e W1 ⟨rfl, u1⟩
 replace M1 := M1.up u1
 replace M2 := M2.up u1
 replace M3 := M3.up u1
 replace M4 := M4.up u1
 replace x6 := x6.up u1
 replace xd6 := xd6.up u1
 replace b0 := b0.up u1
 replace b1 := b1.up u1
 replace r0 := r0.up u1
 replace UP := UP.trans u1
 clear b0_0 b0_1 b0_2 b0_3 b0_4 b0_5 b0_6 b0_7 b0_8 b0_9 b0_10 b0_11 b0_12 b0_13 b0_14 b0_15 b0_16 b1_0 b1_1 b1_2 r0_0 r0_1 r0_2
 have b0_0 := b0.cell (i := 0) rfl
 have b0_1 := b0.cell (i := 1) rfl
 have b0_2 := b0.cell (i := 2) rfl
 have b0_3 := b0.cell (i := 3) rfl
 have b0_4 := b0.cell (i := 4) rfl
 have b0_5 := b0.cell (i := 5) rfl
 have b0_6 := b0.cell (i := 6) rfl
 have b0_7 := b0.cell (i := 7) rfl
 have b0_8 := b0.cell (i := 8) rfl
 have b0_9 := b0.cell (i := 9) rfl
 have b0_10 := b0.cell (i := 10) rfl
 have b0_11 := b0.cell (i := 11) rfl
 have b0_12 := b0.cell (i := 12) rfl
 have b0_13 := b0.cell (i := 13) rfl
 have b0_14 := b0.cell (i := 14) rfl
 have b0_15 := b0.cell (i := 15) rfl
 have b0_16 := b0.cell (i := 16) rfl
 obtain ⟨b1_0, b1_1, b1_2⟩ := b1.c3
 obtain ⟨r0_0, r0_1, r0_2⟩ := r0.c3
 replace r0_f0 := r0.free 0
 replace r0_f1 := r0.free 1
 replace r0_f2 := r0.free 2
 clear u1
 by_cases h0 : e = 0
 · have kz : decide (e = 0) = true := decide_eq_true h0
   have HE : Hid (high = R) := Lib.hid (by rw [HFX.out, if_pos h0])
   rw [kz]
   clear h0 kz
   go_wp2_with fail
   exact end_rq rfl rfl rfl (by rw [← HE.out]; exact M4) r0 trivial trivial trivial UP (by omega)
 have kz : decide (e = 0) = false := decide_eq_false h0
 have HE : Hid (R = if Dn < low then low else if high < Dn then high else Dn) := Lib.hid (by rw [HFX.out, if_neg h0])
 have HF0 := Lib.hid (HDN.out h0).1
 have HG := Lib.hid (HDN.out h0).2
 have LFR : Wd.Lq (F : Rat) (2010 + k) := by
  have : Wd.Lq (F : Rat) (2010 + k) := by
   have hl := LF
   refine ⟨?_, ?_⟩
   · rw [Rat.num_intCast]; exact Nat.le_trans hl (by omega)
   · rw [Rat.den_intCast]; exact Nat.le_trans (Wd.words_32 (by omega)) (by omega)
  exact this
 have LFN : Hid ((Wd.words F.natAbs).length ≤ 90000) := Lib.hid (Nat.le_trans LF (by omega))
 have HNQ : Hid (mkRat (Wd.iv false (Wd.val (Wd.words F.natAbs))) (Wd.val [1]) = (F : Rat)) := Lib.hid (by rw [Wd.val_words, show Wd.val [1] = 1 from rfl, mkRat_int, Wd.iv_false]; congr 1; have := HF0.out; omega)
 rw [kz]
 clear h0 kz HDN
 go_wp2_with fail
 ((with_reducible refine (ref9_int (n := fi) (by omega) _).mono ?_))
 rintro e W2 ⟨V2, rfl, yy, u2⟩
 replace M1 := M1.up u2
 replace M2 := M2.up u2
 replace M3 := M3.up u2
 replace M4 := M4.up u2
 replace x6 := x6.up u2
 replace xd6 := xd6.up u2
 replace b0 := b0.up u2
 replace b1 := b1.up u2
 replace r0 := r0.up u2
 replace UP := UP.trans u2
 clear b0_0 b0_1 b0_2 b0_3 b0_4 b0_5 b0_6 b0_7 b0_8 b0_9 b0_10 b0_11 b0_12 b0_13 b0_14 b0_15 b0_16 b1_0 b1_1 b1_2 r0_0 r0_1 r0_2
 have b0_0 := b0.cell (i := 0) rfl
 have b0_1 := b0.cell (i := 1) rfl
 have b0_2 := b0.cell (i := 2) rfl
 have b0_3 := b0.cell (i := 3) rfl
 have b0_4 := b0.cell (i := 4) rfl
 have b0_5 := b0.cell (i := 5) rfl
 have b0_6 := b0.cell (i := 6) rfl
 have b0_7 := b0.cell (i := 7) rfl
 have b0_8 := b0.cell (i := 8) rfl
 have b0_9 := b0.cell (i := 9) rfl
 have b0_10 := b0.cell (i := 10) rfl
 have b0_11 := b0.cell (i := 11) rfl
 have b0_12 := b0.cell (i := 12) rfl
 have b0_13 := b0.cell (i := 13) rfl
 have b0_14 := b0.cell (i := 14) rfl
 have b0_15 := b0.cell (i := 15) rfl
 have b0_16 := b0.cell (i := 16) rfl
 obtain ⟨b1_0, b1_1, b1_2⟩ := b1.c3
 obtain ⟨r0_0, r0_1, r0_2⟩ := r0.c3
 replace r0_f0 := r0.free 0
 replace r0_f1 := r0.free 1
 replace r0_f2 := r0.free 2
 clear u2
 rw [HY.out] at yy
 obtain ⟨Xyy, Yyy, rfl, yy, yyd⟩ := yy
 obtain ⟨Ayy, nyy, cyy, rfl⟩ := yy.shape
 obtain ⟨Ayyd, nyyd, cyyd, rfl⟩ := yyd.shape
 have b0_0a := fun O0 => (cell_alloc (o := O0) b0_0)
 have b0_1a := fun O0 => (cell_alloc (o := O0) b0_1)
 have b0_2a := fun O0 => (cell_alloc (o := O0) b0_2)
 have b0_3a := fun O0 => (cell_alloc (o := O0) b0_3)
 have b0_4a := fun O0 => (cell_alloc (o := O0) b0_4)
 have b0_5a := fun O0 => (cell_alloc (o := O0) b0_5)
 have b0_6a := fun O0 => (cell_alloc (o := O0) b0_6)
 have b0_7a := fun O0 => (cell_alloc (o := O0) b0_7)
 have b0_8a := fun O0 => (cell_alloc (o := O0) b0_8)
 have b0_9a := fun O0 => (cell_alloc (o := O0) b0_9)
 have b0_10a := fun O0 => (cell_alloc (o := O0) b0_10)
 have b0_11a := fun O0 => (cell_alloc (o := O0) b0_11)
 have b0_12a := fun O0 => (cell_alloc (o := O0) b0_12)
 have b0_13a := fun O0 => (cell_alloc (o := O0) b0_13)
 have b0_14a := fun O0 => (cell_alloc (o := O0) b0_14)
 have b0_15a := fun O0 => (cell_alloc (o := O0) b0_15)
 have b0_16a := fun O0 => (cell_alloc (o := O0) b0_16)
 have b1_0a := fun O0 => (cell_alloc (o := O0) b1_0)
 have b1_1a := fun O0 => (cell_alloc (o := O0) b1_1)
 have b1_2a := fun O0 => (cell_alloc (o := O0) b1_2)
 have r0_0a := fun O0 => (cell_alloc (o := O0) r0_0)
 have r0_f0a := fun O0 => (r0.up ((Up.refl W2).alloc O0)).free 0
 have r0_1a := fun O0 => (cell_alloc (o := O0) r0_1)
 have r0_f1a := fun O0 => (r0.up ((Up.refl W2).alloc O0)).free 1
 have r0_2a := fun O0 => (cell_alloc (o := O0) r0_2)
 have r0_f2a := fun O0 => (r0.up ((Up.refl W2).alloc O0)).free 2
 go_upto_region 4 with fail
 clear b0_0a b0_1a b0_2a b0_3a b0_4a b0_5a b0_6a b0_7a b0_8a b0_9a b0_10a b0_11a b0_12a b0_13a b0_14a b0_15a b0_16a b1_0a b1_1a b1_2a r0_0a r0_f0a r0_1a r0_f1a r0_2a r0_f2a
 have x5 := Bx.new 24 W2 [.bool (Wd.ngb y.num), .slice Ayy nyy cyy, .slice Ayyd nyyd cyyd]
 have b0_lt_x5 := b0.lt
 have b1_lt_x5 := b1.lt
 have r0_lt_x5 := r0.lt
 have nu := ((Up.refl W2).alloc (.cells #[.bool (Wd.ngb y.num), .slice Ayy nyy cyy, .slice Ayyd nyyd cyyd] 24))
 replace M1 := M1.up nu
 replace M2 := M2.up nu
 replace M3 := M3.up nu
 replace M4 := M4.up nu
 replace x6 := x6.up nu
 replace xd6 := xd6.up nu
 replace yy := yy.up nu
 replace yyd := yyd.up nu
 replace b0 := b0.up nu
 replace b1 := b1.up nu
 replace r0 := r0.up nu
 replace UP := UP.trans nu
 clear nu
 generalize (W2.alloc (.cells #[.bool (Wd.ngb y.num), .slice Ayy nyy cyy, .slice Ayyd nyyd cyyd] 24)) = W3 at *
 clear b0_0 b0_1 b0_2 b0_3 b0_4 b0_5 b0_6 b0_7 b0_8 b0_9 b0_10 b0_11 b0_12 b0_13 b0_14 b0_15 b0_16 b1_0 b1_1 b1_2 r0_0 r0_1 r0_2
 have b0_0 := b0.cell (i := 0) rfl
 have b0_1 := b0.cell (i := 1) rfl
 have b0_2 := b0.cell (i := 2) rfl
 have b0_3 := b0.cell (i := 3) rfl
 have b0_4 := b0.cell (i := 4) rfl
 have b0_5 := b0.cell (i := 5) rfl
 have b0_6 := b0.cell (i := 6) rfl
 have b0_7 := b0.cell (i := 7) rfl
 have b0_8 := b0.cell (i := 8) rfl
 have b0_9 := b0.cell (i := 9) rfl
 have b0_10 := b0.cell (i := 10) rfl
 have b0_11 := b0.cell (i := 11) rfl
 have b0_12 := b0.cell (i := 12) rfl
 have b0_13 := b0.cell (i := 13) rfl
 have b0_14 := b0.cell (i := 14) rfl
 have b0_15 := b0.cell (i := 15) rfl
 have b0_16 := b0.cell (i := 16) rfl
 obtain ⟨b1_0, b1_1, b1_2⟩ := b1.c3
 obtain ⟨r0_0, r0_1, r0_2⟩ := r0.c3
 replace r0_f0 := r0.free 0
 replace r0_f1 := r0.free 1
 replace r0_f2 := r0.free 2
 obtain ⟨x5_0, x5_1, x5_2⟩ := x5.c3
 go_cut [6] (fun s6 wx => ∃ (g : Nat) (A D : Option Addr) (n c m d : Nat), s6 = .pointer (some ⟨g, 0, none⟩) ∧ Bx 24 wx g [.bool (Wd.ngb X.num), .slice A n c, .slice D m d] ∧ Qw wx (.agg #[.bool (Wd.ngb X.num), .slice A n c, .slice D m d]) X ∧ Bx 26 wx w.heap.size [.bool s1, .slice A1 l1.length c1, .slice D1 m1.length e1, .bool s2, .slice A2 l2.length c2, .slice D2 m2.length e2, .bool s3, .slice A3 l3.length c3, .slice D3 m3.length e3, .bool s4, .slice A4 l4.length c4, .slice D4 m4.length e4, .bool s5, .slice A5 l5.length c5, .slice D5 m5.length e5, .int .i64 fi, .int .i64 mo] ∧ Bx 24 wx (w.heap.size + 1 + 1) [.bool false, .slice none 0 0, .slice none 0 0] ∧ Bx 24 wx W2.heap.size [.bool (Wd.ngb y.num), .slice Ayy nyy cyy, .slice Ayyd nyyd cyyd] ∧ Qw wx (.agg #[.bool (Wd.ngb y.num), .slice Ayy nyy cyy, .slice Ayyd nyyd cyyd]) y ∧ Qw wx (.agg #[.bool s3, .slice A3 l3.length c3, .slice D3 m3.length e3]) low ∧ Qw wx (.agg #[.bool s4, .slice A4 l4.length c4, .slice D4 m4.length e4]) high ∧ Up w wx)
 case first =>
  replace M1 := M1.up (Up.refl W3).drew
  replace M2 := M2.up (Up.refl W3).drew
  replace M3 := M3.up (Up.refl W3).drew
  replace M4 := M4.up (Up.refl W3).drew
  replace x6 := x6.up (Up.refl W3).drew
  replace xd6 := xd6.up (Up.refl W3).drew
  replace yy := yy.up (Up.refl W3).drew
  replace yyd := yyd.up (Up.refl W3).drew
  replace b0 := b0.up (Up.refl W3).drew
  replace b1 := b1.up (Up.refl W3).drew
  replace r0 := r0.up (Up.refl W3).drew
  replace x5 := x5.up (Up.refl W3).drew
  replace UP := UP.trans (Up.refl W3).drew
  clear b0_0 b0_1 b0_2 b0_3 b0_4 b0_5 b0_6 b0_7 b0_8 b0_9 b0_10 b0_11 b0_12 b0_13 b0_14 b0_15 b0_16 b1_0 b1_1 b1_2 r0_0 r0_1 r0_2 x5_0 x5_1 x5_2
  have b0_0 := b0.cell (i := 0) rfl
  have b0_1 := b0.cell (i := 1) rfl
  have b0_2 := b0.cell (i := 2) rfl
  have b0_3 := b0.cell (i := 3) rfl
  have b0_4 := b0.cell (i := 4) rfl
  have b0_5 := b0.cell (i := 5) rfl
  have b0_6 := b0.cell (i := 6) rfl
  have b0_7 := b0.cell (i := 7) rfl
  have b0_8 := b0.cell (i := 8) rfl
  have b0_9 := b0.cell (i := 9) rfl
  have b0_10 := b0.cell (i := 10) rfl
  have b0_11 := b0.cell (i := 11) rfl
  have b0_12 := b0.cell (i := 12) rfl
  have b0_13 := b0.cell (i := 13) rfl
  have b0_14 := b0.cell (i := 14) rfl
  have b0_15 := b0.cell (i := 15) rfl
  have b0_16 := b0.cell (i := 16) rfl
  obtain ⟨b1_0, b1_1, b1_2⟩ := b1.c3
  obtain ⟨r0_0, r0_1, r0_2⟩ := r0.c3
  replace r0_f0 := r0.free 0
  replace r0_f1 := r0.free 1
  replace r0_f2 := r0.free 2
  obtain ⟨x5_0, x5_1, x5_2⟩ := x5.c3
  refine wp_region_noPanic ?_
  refine wp_region_held_drew (S := fun w' => Up w w' ∧ w'.cell? ⟨w.heap.size, 0, none⟩ = some (.bool s1) ∧ w'.cell? ⟨w.heap.size, 1, none⟩ = some (.slice A1 l1.length c1) ∧ w'.cell? ⟨w.heap.size, 2, none⟩ = some (.slice D1 m1.length e1) ∧ w'.cell? ⟨w.heap.size, 3, none⟩ = some (.bool s2) ∧ w'.cell? ⟨w.heap.size, 4, none⟩ = some (.slice A2 l2.length c2) ∧ w'.cell? ⟨w.heap.size, 5, none⟩ = some (.slice D2 m2.length e2) ∧ w'.cell? ⟨w.heap.size, 6, none⟩ = some (.bool s3) ∧ w'.cell? ⟨w.heap.size, 7, none⟩ = some (.slice A3 l3.length c3) ∧ w'.cell? ⟨w.heap.size, 8, none⟩ = some (.slice D3 m3.length e3) ∧ w'.cell? ⟨w.heap.size, 9, none⟩ = some (.bool s4) ∧ w'.cell? ⟨w.heap.size, 10, none⟩ = some (.slice A4 l4.length c4) ∧ w'.cell? ⟨w.heap.size, 11, none⟩ = some (.slice D4 m4.length e4) ∧ w'.cell? ⟨w.heap.size, 12, none⟩ = some (.bool s5) ∧ w'.cell? ⟨w.heap.size, 13, none⟩ = some (.slice A5 l5.length c5) ∧ w'.cell? ⟨w.heap.size, 14, none⟩ = some (.slice D5 m5.length e5) ∧ w'.cell? ⟨w.heap.size, 15, none⟩ = some (.int .i64 fi) ∧ w'.cell? ⟨w.heap.size, 16, none⟩ = some (.int .i64 mo) ∧ w'.cell? ⟨w.heap.size + 1, 0, none⟩ = some (.bool (Wd.ngb e.num)) ∧ w'.cell? ⟨w.heap.size + 1, 1, none⟩ = some (.slice A6 n6 c6) ∧ w'.cell? ⟨w.heap.size + 1, 2, none⟩ = some (.slice D6 p6 d6) ∧ w'.cell? ⟨W2.heap.size, 0, none⟩ = some (.bool (Wd.ngb y.num)) ∧ w'.cell? ⟨W2.heap.size, 1, none⟩ = some (.slice Ayy nyy cyy) ∧ w'.cell? ⟨W2.heap.size, 2, none⟩ = some (.slice Ayyd nyyd cyyd)) (by kernel_rfl) (by exact ⟨UP, b0_0, b0_1, b0_2, b0_3, b0_4, b0_5, b0_6, b0_7, b0_8, b0_9, b0_10, b0_11, b0_12, b0_13, b0_14, b0_15, b0_16, b1_0, b1_1, b1_2, x5_0, x5_1, x5_2⟩) (fun hHeld => ?_)
  clear hHeld
  generalize W3.drew = WC at *
  have hHeld : Up w WC ∧ WC.cell? ⟨w.heap.size, 0, none⟩ = some (.bool s1) ∧ WC.cell? ⟨w.heap.size, 1, none⟩ = some (.slice A1 l1.length c1) ∧ WC.cell? ⟨w.heap.size, 2, none⟩ = some (.slice D1 m1.length e1) ∧ WC.cell? ⟨w.heap.size, 3, none⟩ = some (.bool s2) ∧ WC.cell? ⟨w.heap.size, 4, none⟩ = some (.slice A2 l2.length c2) ∧ WC.cell? ⟨w.heap.size, 5, none⟩ = some (.slice D2 m2.length e2) ∧ WC.cell? ⟨w.heap.size, 6, none⟩ = some (.bool s3) ∧ WC.cell? ⟨w.heap.size, 7, none⟩ = some (.slice A3 l3.length c3) ∧ WC.cell? ⟨w.heap.size, 8, none⟩ = some (.slice D3 m3.length e3) ∧ WC.cell? ⟨w.heap.size, 9, none⟩ = some (.bool s4) ∧ WC.cell? ⟨w.heap.size, 10, none⟩ = some (.slice A4 l4.length c4) ∧ WC.cell? ⟨w.heap.size, 11, none⟩ = some (.slice D4 m4.length e4) ∧ WC.cell? ⟨w.heap.size, 12, none⟩ = some (.bool s5) ∧ WC.cell? ⟨w.heap.size, 13, none⟩ = some (.slice A5 l5.length c5) ∧ WC.cell? ⟨w.heap.size, 14, none⟩ = some (.slice D5 m5.length e5) ∧ WC.cell? ⟨w.heap.size, 15, none⟩ = some (.int .i64 fi) ∧ WC.cell? ⟨w.heap.size, 16, none⟩ = some (.int .i64 mo) ∧ WC.cell? ⟨w.heap.size + 1, 0, none⟩ = some (.bool (Wd.ngb e.num)) ∧ WC.cell? ⟨w.heap.size + 1, 1, none⟩ = some (.slice A6 n6 c6) ∧ WC.cell? ⟨w.heap.size + 1, 2, none⟩ = some (.slice D6 p6 d6) ∧ WC.cell? ⟨W2.heap.size, 0, none⟩ = some (.bool (Wd.ngb y.num)) ∧ WC.cell? ⟨W2.heap.size, 1, none⟩ = some (.slice Ayy nyy cyy) ∧ WC.cell? ⟨W2.heap.size, 2, none⟩ = some (.slice Ayyd nyyd cyyd) := by exact ⟨UP, b0_0, b0_1, b0_2, b0_3, b0_4, b0_5, b0_6, b0_7, b0_8, b0_9, b0_10, b0_11, b0_12, b0_13, b0_14, b0_15, b0_16, b1_0, b1_1, b1_2, x5_0, x5_1, x5_2⟩
  refine wpAnyH_take (i := 0) (v := ?_) rfl (by kernel_rfl) (by decide +kernel) (by decide +kernel) (fun _ _ _ h => h) (Or.inl ⟨by rfl, ?_⟩) (by assumption) ?_
  rotate_left
  · (intro w hSw; (try dsimp only at hSw); go_simp; first | done | with_reducible rfl)
  try simp only [List.getElem_toArray, List.getElem_cons_zero, List.getElem_cons_succ, Act.put, List.setIfInBounds_toArray, List.set_cons_zero, List.set_cons_succ]
  refine wpAnyH_take (i := 1) (v := ?_) rfl (by kernel_rfl) (by decide +kernel) (by decide +kernel) (fun _ _ _ h => h) (Or.inl ⟨by rfl, ?_⟩) (by assumption) ?_
  rotate_left
  · (intro w hSw; (try dsimp only at hSw); go_simp; first | done | with_reducible rfl)
  try simp only [List.getElem_toArray, List.getElem_cons_zero, List.getElem_cons_succ, Act.put, List.setIfInBounds_toArray, List.set_cons_zero, List.set_cons_succ]
  refine wpAnyH_take (i := 2) (v := ?_) rfl (by kernel_rfl) (by decide +kernel) (by decide +kernel) (fun _ _ _ h => h) (Or.inl ⟨by rfl, ?_⟩) (by assumption) ?_
  rotate_left
  · (intro w hSw; (try dsimp only at hSw); go_simp; first | done | with_reducible rfl)
  try simp only [List.getElem_toArray, List.getElem_cons_zero, List.getElem_cons_succ, Act.put, List.setIfInBounds_toArray, List.set_cons_zero, List.set_cons_succ]
  refine wpAnyH_take (i := 3) (v := ?_) rfl (by kernel_rfl) (by decide +kernel) (by decide +kernel) (fun _ _ _ h => h) (Or.inl ⟨by rfl, ?_⟩) (by assumption) ?_
  rotate_left
  · (intro w hSw; (try dsimp only at hSw); go_simp; first | done | with_reducible rfl)
  try simp only [List.getElem_toArray, List.getElem_cons_zero, List.getElem_cons_succ, Act.put, List.setIfInBounds_toArray, List.set_cons_zero, List.set_cons_succ]
  refine wpAnyH_take (i := 5) (v := ?_) rfl (by kernel_rfl) (by decide +kernel) (by decide +kernel) (fun _ _ _ h => h) (Or.inl ⟨by rfl, ?_⟩) (by assumption) ?_
  rotate_left
  · (intro w hSw; (try dsimp only at hSw); go_simp; first | done | with_reducible rfl)
  try simp only [List.getElem_toArray, List.getElem_cons_zero, List.getElem_cons_succ, Act.put, List.setIfInBounds_toArray, List.set_cons_zero, List.set_cons_succ]
  refine wpAnyH_take (i := 7) (v := ?_) rfl (by kernel_rfl) (by decide +kernel) (by decide +kernel) (fun _ _ _ h => h) (Or.inl ⟨by rfl, ?_⟩) (by assumption) ?_
  rotate_left
  · (intro w hSw; (try dsimp only at hSw); go_simp; first | done | with_reducible rfl)
  try simp only [List.getElem_toArray, List.getElem_cons_zero, List.getElem_cons_succ, Act.put, List.setIfInBounds_toArray, List.set_cons_zero, List.set_cons_succ]
  repeat' first
   | refine wpAnyH_ready (rs := [4, 9]) (by decide +kernel) (by simp) ?_
   | refine wpAnyH_ready (rs := [4]) (by decide +kernel) (by simp) ?_
   | refine wpAnyH_ready (rs := [6, 9]) (by decide +kernel) (by simp) ?_
   | refine wpAnyH_ready (rs := [6]) (by decide +kernel) (by simp) ?_
   | refine wpAnyH_ready (rs := [8, 9]) (by decide +kernel) (by simp) ?_
   | refine wpAnyH_ready (rs := [8]) (by decide +kernel) (by simp) ?_
   | refine wpAnyH_ready (rs := [9]) (by decide +kernel) (by simp) ?_
   | refine wpAnyH_ready (rs := [10]) (by decide +kernel) (by simp) ?_
   | refine AllReadyH.cons (i := 4) rfl (fun K hK4 => ?_) ?_
   | refine AllReadyH.cons (i := 6) rfl (fun K hK6 => ?_) ?_
   | refine AllReadyH.cons (i := 8) rfl (fun K hK8 => ?_) ?_
   | refine AllReadyH.cons (i := 9) rfl (fun K hK9 => ?_) ?_
   | refine AllReadyH.cons (i := 10) rfl (fun K hK10 => ?_) ?_
   | exact AllReadyH.nil
   | (have hK := hK4
      clear hK4
      (try clear hHeld)
      go_simp
      go_at_call 57
      ((with_reducible refine (ref9_mul M2 M1 L2 L1 (by omega) (by omega)).mono ?_))
      rintro e WD ⟨V4, rfl, m, uu⟩
      replace M1 := M1.up uu
      replace M2 := M2.up uu
      replace M3 := M3.up uu
      replace M4 := M4.up uu
      replace x6 := x6.up uu
      replace xd6 := xd6.up uu
      replace yy := yy.up uu
      replace yyd := yyd.up uu
      try (replace t := t.up uu)
      try (replace q := q.up uu)
      try (replace qd := qd.up uu)
      replace b0 := b0.up uu
      replace b1 := b1.up uu
      replace r0 := r0.up uu
      replace x5 := x5.up uu
      try (replace x1 := x1.up uu)
      replace UP := UP.trans uu
      clear uu
      obtain ⟨WC, hWC⟩ : ∃ W, W = WD := ⟨_, rfl⟩
      subst hWC
      clear b0_0 b0_1 b0_2 b0_3 b0_4 b0_5 b0_6 b0_7 b0_8 b0_9 b0_10 b0_11 b0_12 b0_13 b0_14 b0_15 b0_16
      have b0_0 := b0.cell (i := 0) rfl
      have b0_1 := b0.cell (i := 1) rfl
      have b0_2 := b0.cell (i := 2) rfl
      have b0_3 := b0.cell (i := 3) rfl
      have b0_4 := b0.cell (i := 4) rfl
      have b0_5 := b0.cell (i := 5) rfl
      have b0_6 := b0.cell (i := 6) rfl
      have b0_7 := b0.cell (i := 7) rfl
      have b0_8 := b0.cell (i := 8) rfl
      have b0_9 := b0.cell (i := 9) rfl
      have b0_10 := b0.cell (i := 10) rfl
      have b0_11 := b0.cell (i := 11) rfl
      have b0_12 := b0.cell (i := 12) rfl
      have b0_13 := b0.cell (i := 13) rfl
      have b0_14 := b0.cell (i := 14) rfl
      have b0_15 := b0.cell (i := 15) rfl
      have b0_16 := b0.cell (i := 16) rfl
      clear b1_0 b1_1 b1_2
      obtain ⟨b1_0, b1_1, b1_2⟩ := b1.c3
      replace r0_f0 := r0.free 0
      replace r0_f1 := r0.free 1
      replace r0_f2 := r0.free 2
      clear r0_0 r0_1 r0_2
      obtain ⟨r0_0, r0_1, r0_2⟩ := r0.c3
      clear x5_0 x5_1 x5_2
      obtain ⟨x5_0, x5_1, x5_2⟩ := x5.c3
      rw [HM.out] at m
      try go_wp2_with fail
      refine hK.out _ _ (by exact ⟨UP, b0_0, b0_1, b0_2, b0_3, b0_4, b0_5, b0_6, b0_7, b0_8, b0_9, b0_10, b0_11, b0_12, b0_13, b0_14, b0_15, b0_16, b1_0, b1_1, b1_2, x5_0, x5_1, x5_2⟩) (fun hHeld => ?_)
      clear hK K
      try simp only [List.getElem_toArray, List.getElem_cons_zero, List.getElem_cons_succ, Act.put, List.setIfInBounds_toArray, List.set_cons_zero, List.set_cons_succ])
   | (have hK := hK6
      clear hK6
      (try clear hHeld)
      go_simp
      go_at_call 57
      ((with_reducible refine (ref9_mul m (qw_of2 yy yyd) LM LY (by omega) (by omega)).mono ?_))
      rintro e WD ⟨V6, rfl, t, uu⟩
      replace M1 := M1.up uu
      replace M2 := M2.up uu
      replace M3 := M3.up uu
      replace M4 := M4.up uu
      replace x6 := x6.up uu
      replace xd6 := xd6.up uu
      replace yy := yy.up uu
      replace yyd := yyd.up uu
      try (replace m := m.up uu)
      try (replace q := q.up uu)
      try (replace qd := qd.up uu)
      replace b0 := b0.up uu
      replace b1 := b1.up uu
      replace r0 := r0.up uu
      replace x5 := x5.up uu
      try (replace x1 := x1.up uu)
      replace UP := UP.trans uu
      clear uu
      obtain ⟨WC, hWC⟩ : ∃ W, W = WD := ⟨_, rfl⟩
      subst hWC
      clear b0_0 b0_1 b0_2 b0_3 b0_4 b0_5 b0_6 b0_7 b0_8 b0_9 b0_10 b0_11 b0_12 b0_13 b0_14 b0_15 b0_16
      have b0_0 := b0.cell (i := 0) rfl
      have b0_1 := b0.cell (i := 1) rfl
      have b0_2 := b0.cell (i := 2) rfl
      have b0_3 := b0.cell (i := 3) rfl
      have b0_4 := b0.cell (i := 4) rfl
      have b0_5 := b0.cell (i := 5) rfl
      have b0_6 := b0.cell (i := 6) rfl
      have b0_7 := b0.cell (i := 7) rfl
      have b0_8 := b0.cell (i := 8) rfl
      have b0_9 := b0.cell (i := 9) rfl
      have b0_10 := b0.cell (i := 10) rfl
      have b0_11 := b0.cell (i := 11) rfl
      have b0_12 := b0.cell (i := 12) rfl
      have b0_13 := b0.cell (i := 13) rfl
      have b0_14 := b0.cell (i := 14) rfl
      have b0_15 := b0.cell (i := 15) rfl
      have b0_16 := b0.cell (i := 16) rfl
      clear b1_0 b1_1 b1_2
      obtain ⟨b1_0, b1_1, b1_2⟩ := b1.c3
      replace r0_f0 := r0.free 0
      replace r0_f1 := r0.free 1
      replace r0_f2 := r0.free 2
      clear r0_0 r0_1 r0_2
      obtain ⟨r0_0, r0_1, r0_2⟩ := r0.c3
      clear x5_0 x5_1 x5_2
      obtain ⟨x5_0, x5_1, x5_2⟩ := x5.c3
      rw [HT.out] at t
      try go_wp2_with fail
      refine hK.out _ _ (by exact ⟨UP, b0_0, b0_1, b0_2, b0_3, b0_4, b0_5, b0_6, b0_7, b0_8, b0_9, b0_10, b0_11, b0_12, b0_13, b0_14, b0_15, b0_16, b1_0, b1_1, b1_2, x5_0, x5_1, x5_2⟩) (fun hHeld => ?_)
      clear hK K
      try simp only [List.getElem_toArray, List.getElem_cons_zero, List.getElem_cons_succ, Act.put, List.setIfInBounds_toArray, List.set_cons_zero, List.set_cons_succ])
   | (have hK := hK8
      clear hK8
      (try clear hHeld)
      go_simp
      go_at_call 100
      ((with_reducible refine (ref9_quo t (qw_of2 x6 xd6) LT LE (by omega) (by omega)).mono ?_))
      rintro e WD ⟨V8, rfl, q, uu⟩
      replace M1 := M1.up uu
      replace M2 := M2.up uu
      replace M3 := M3.up uu
      replace M4 := M4.up uu
      replace x6 := x6.up uu
      replace xd6 := xd6.up uu
      replace yy := yy.up uu
      replace yyd := yyd.up uu
      try (replace m := m.up uu)
      try (replace t := t.up uu)
      try (replace qd := qd.up uu)
      replace b0 := b0.up uu
      replace b1 := b1.up uu
      replace r0 := r0.up uu
      replace x5 := x5.up uu
      try (replace x1 := x1.up uu)
      replace UP := UP.trans uu
      clear uu
      obtain ⟨WC, hWC⟩ : ∃ W, W = WD := ⟨_, rfl⟩
      subst hWC
      clear b0_0 b0_1 b0_2 b0_3 b0_4 b0_5 b0_6 b0_7 b0_8 b0_9 b0_10 b0_11 b0_12 b0_13 b0_14 b0_15 b0_16
      have b0_0 := b0.cell (i := 0) rfl
      have b0_1 := b0.cell (i := 1) rfl
      have b0_2 := b0.cell (i := 2) rfl
      have b0_3 := b0.cell (i := 3) rfl
      have b0_4 := b0.cell (i := 4) rfl
      have b0_5 := b0.cell (i := 5) rfl
      have b0_6 := b0.cell (i := 6) rfl
      have b0_7 := b0.cell (i := 7) rfl
      have b0_8 := b0.cell (i := 8) rfl
      have b0_9 := b0.cell (i := 9) rfl
      have b0_10 := b0.cell (i := 10) rfl
      have b0_11 := b0.cell (i := 11) rfl
      have b0_12 := b0.cell (i := 12) rfl
      have b0_13 := b0.cell (i := 13) rfl
      have b0_14 := b0.cell (i := 14) rfl
      have b0_15 := b0.cell (i := 15) rfl
      have b0_16 := b0.cell (i := 16) rfl
      clear b1_0 b1_1 b1_2
      obtain ⟨b1_0, b1_1, b1_2⟩ := b1.c3
      replace r0_f0 := r0.free 0
      replace r0_f1 := r0.free 1
      replace r0_f2 := r0.free 2
      clear r0_0 r0_1 r0_2
      obtain ⟨r0_0, r0_1, r0_2⟩ := r0.c3
      clear x5_0 x5_1 x5_2
      obtain ⟨x5_0, x5_1, x5_2⟩ := x5.c3
      rw [HX.out] at q
      obtain ⟨Xq, Yq, rfl, q, qd⟩ := q
      obtain ⟨Aq, nq, cq, rfl⟩ := q.shape
      obtain ⟨Aqd, nqd, cqd, rfl⟩ := qd.shape
      try go_wp2_with fail
      refine hK.out _ _ (by exact ⟨UP, b0_0, b0_1, b0_2, b0_3, b0_4, b0_5, b0_6, b0_7, b0_8, b0_9, b0_10, b0_11, b0_12, b0_13, b0_14, b0_15, b0_16, b1_0, b1_1, b1_2, x5_0, x5_1, x5_2⟩) (fun hHeld => ?_)
      clear hK K
      try simp only [List.getElem_toArray, List.getElem_cons_zero, List.getElem_cons_succ, Act.put, List.setIfInBounds_toArray, List.set_cons_zero, List.set_cons_succ])
   | (have hK := hK9
      clear hK9
      (try clear hHeld)
      go_simp
      have x1 := Bx.new 24 WC [.bool false, .slice none 0 0, .slice none 0 0]
      have b0_lt_x1 := b0.lt
      have b1_lt_x1 := b1.lt
      have r0_lt_x1 := r0.lt
      have x5_lt_x1 := x5.lt
      have x1_base := UP.size
      have nu := ((Up.refl WC).alloc (.cells #[.bool false, .slice none 0 0, .slice none 0 0] 24))
      replace M1 := M1.up nu
      replace M2 := M2.up nu
      replace M3 := M3.up nu
      replace M4 := M4.up nu
      replace x6 := x6.up nu
      replace xd6 := xd6.up nu
      replace yy := yy.up nu
      replace yyd := yyd.up nu
      try (replace m := m.up nu)
      try (replace t := t.up nu)
      try (replace q := q.up nu)
      try (replace qd := qd.up nu)
      replace b0 := b0.up nu
      replace b1 := b1.up nu
      replace r0 := r0.up nu
      replace x5 := x5.up nu
      replace UP := UP.trans nu
      clear nu
      generalize WC.alloc (.cells #[.bool false, .slice none 0 0, .slice none 0 0] 24) = WD at *
      generalize WC.heap.size = gx1 at *
      obtain ⟨WC, hWC⟩ : ∃ W, W = WD := ⟨_, rfl⟩
      subst hWC
      clear b0_0 b0_1 b0_2 b0_3 b0_4 b0_5 b0_6 b0_7 b0_8 b0_9 b0_10 b0_11 b0_12 b0_13 b0_14 b0_15 b0_16
      have b0_0 := b0.cell (i := 0) rfl
      have b0_1 := b0.cell (i := 1) rfl
      have b0_2 := b0.cell (i := 2) rfl
      have b0_3 := b0.cell (i := 3) rfl
      have b0_4 := b0.cell (i := 4) rfl
      have b0_5 := b0.cell (i := 5) rfl
      have b0_6 := b0.cell (i := 6) rfl
      have b0_7 := b0.cell (i := 7) rfl
      have b0_8 := b0.cell (i := 8) rfl
      have b0_9 := b0.cell (i := 9) rfl
      have b0_10 := b0.cell (i := 10) rfl
      have b0_11 := b0.cell (i := 11) rfl
      have b0_12 := b0.cell (i := 12) rfl
      have b0_13 := b0.cell (i := 13) rfl
      have b0_14 := b0.cell (i := 14) rfl
      have b0_15 := b0.cell (i := 15) rfl
      have b0_16 := b0.cell (i := 16) rfl
      clear b1_0 b1_1 b1_2
      obtain ⟨b1_0, b1_1, b1_2⟩ := b1.c3
      replace r0_f0 := r0.free 0
      replace r0_f1 := r0.free 1
      replace r0_f2 := r0.free 2
      clear r0_0 r0_1 r0_2
      obtain ⟨r0_0, r0_1, r0_2⟩ := r0.c3
      clear x5_0 x5_1 x5_2
      obtain ⟨x5_0, x5_1, x5_2⟩ := x5.c3
      refine hK.out _ _ (by exact ⟨UP, b0_0, b0_1, b0_2, b0_3, b0_4, b0_5, b0_6, b0_7, b0_8, b0_9, b0_10, b0_11, b0_12, b0_13, b0_14, b0_15, b0_16, b1_0, b1_1, b1_2, x5_0, x5_1, x5_2⟩) (fun hHeld => ?_)
      clear hK K
      try simp only [List.getElem_toArray, List.getElem_cons_zero, List.getElem_cons_succ, Act.put, List.setIfInBounds_toArray, List.set_cons_zero, List.set_cons_succ])
   | (have hK := hK10
      clear hK10
      (try clear hHeld)
      obtain ⟨ce0, ce1, ce2⟩ := x1.c3
      have fr0 := x1.free 0
      have fr1 := x1.free 1
      have fr2 := x1.free 2
      go_simp
      clear ce0 ce1 ce2 fr0 fr1 fr2
      have KW : Kw (WC) ((WC).setCell ⟨gx1, 0, none⟩ (.bool (Wd.ngb X.num))) := Kw.store (c := (.bool false)) x1 rfl trivial _
      replace M1 := M1.kw KW
      replace M2 := M2.kw KW
      replace M3 := M3.kw KW
      replace M4 := M4.kw KW
      replace x6 := x6.kw KW
      replace xd6 := xd6.kw KW
      replace yy := yy.kw KW
      replace yyd := yyd.kw KW
      try (replace m := m.kw KW)
      try (replace t := t.kw KW)
      try (replace q := q.kw KW)
      try (replace qd := qd.kw KW)
      replace b0 := b0.far (p := ⟨gx1, 0, none⟩) (by dsimp only; omega) (.bool (Wd.ngb X.num))
      replace b1 := b1.far (p := ⟨gx1, 0, none⟩) (by dsimp only; omega) (.bool (Wd.ngb X.num))
      replace r0 := r0.far (p := ⟨gx1, 0, none⟩) (by dsimp only; omega) (.bool (Wd.ngb X.num))
      replace x5 := x5.far (p := ⟨gx1, 0, none⟩) (by dsimp only; omega) (.bool (Wd.ngb X.num))
      replace x1 : Bx 24 ((WC).setCell ⟨gx1, 0, none⟩ (.bool (Wd.ngb X.num))) (gx1) [.bool (Wd.ngb X.num), .slice none 0 0, .slice none 0 0] := x1.set 0 (.bool (Wd.ngb X.num))
      replace UP := UP.setCell (p := ⟨gx1, 0, none⟩) (by dsimp only; omega) (.bool (Wd.ngb X.num))
      have KW : Kw (((WC).setCell ⟨gx1, 0, none⟩ (.bool (Wd.ngb X.num)))) ((((WC).setCell ⟨gx1, 0, none⟩ (.bool (Wd.ngb X.num)))).setCell ⟨gx1, 1, none⟩ (.slice Aq nq cq)) := Kw.store (c := (.slice none 0 0)) x1 rfl trivial _
      replace M1 := M1.kw KW
      replace M2 := M2.kw KW
      replace M3 := M3.kw KW
      replace M4 := M4.kw KW
      replace x6 := x6.kw KW
      replace xd6 := xd6.kw KW
      replace yy := yy.kw KW
      replace yyd := yyd.kw KW
      try (replace m := m.kw KW)
      try (replace t := t.kw KW)
      try (replace q := q.kw KW)
      try (replace qd := qd.kw KW)
      replace b0 := b0.far (p := ⟨gx1, 1, none⟩) (by dsimp only; omega) (.slice Aq nq cq)
      replace b1 := b1.far (p := ⟨gx1, 1, none⟩) (by dsimp only; omega) (.slice Aq nq cq)
      replace r0 := r0.far (p := ⟨gx1, 1, none⟩) (by dsimp only; omega) (.slice Aq nq cq)
      replace x5 := x5.far (p := ⟨gx1, 1, none⟩) (by dsimp only; omega) (.slice Aq nq cq)
      replace x1 : Bx 24 ((((WC).setCell ⟨gx1, 0, none⟩ (.bool (Wd.ngb X.num)))).setCell ⟨gx1, 1, none⟩ (.slice Aq nq cq)) (gx1) [.bool (Wd.ngb X.num), .slice Aq nq cq, .slice none 0 0] := x1.set 1 (.slice Aq nq cq)
      replace UP := UP.setCell (p := ⟨gx1, 1, none⟩) (by dsimp only; omega) (.slice Aq nq cq)
      have KW : Kw (((((WC).setCell ⟨gx1, 0, none⟩ (.bool (Wd.ngb X.num)))).setCell ⟨gx1, 1, none⟩ (.slice Aq nq cq))) ((((((WC).setCell ⟨gx1, 0, none⟩ (.bool (Wd.ngb X.num)))).setCell ⟨gx1, 1, none⟩ (.slice Aq nq cq))).setCell ⟨gx1, 2, none⟩ (.slice Aqd nqd cqd)) := Kw.store (c := (.slice none 0 0)) x1 rfl trivial _
      replace M1 := M1.kw KW
      replace M2 := M2.kw KW
      replace M3 := M3.kw KW
      replace M4 := M4.kw KW
      replace x6 := x6.kw KW
      replace xd6 := xd6.kw KW
      replace yy := yy.kw KW
      replace yyd := yyd.kw KW
      try (replace m := m.kw KW)
      try (replace t := t.kw KW)
      try (replace q := q.kw KW)
      try (replace qd := qd.kw KW)
      replace b0 := b0.far (p := ⟨gx1, 2, none⟩) (by dsimp only; omega) (.slice Aqd nqd cqd)
      replace b1 := b1.far (p := ⟨gx1, 2, none⟩) (by dsimp only; omega) (.slice Aqd nqd cqd)
      replace r0 := r0.far (p := ⟨gx1, 2, none⟩) (by dsimp only; omega) (.slice Aqd nqd cqd)
      replace x5 := x5.far (p := ⟨gx1, 2, none⟩) (by dsimp only; omega) (.slice Aqd nqd cqd)
      replace x1 : Bx 24 ((((((WC).setCell ⟨gx1, 0, none⟩ (.bool (Wd.ngb X.num)))).setCell ⟨gx1, 1, none⟩ (.slice Aq nq cq))).setCell ⟨gx1, 2, none⟩ (.slice Aqd nqd cqd)) (gx1) [.bool (Wd.ngb X.num), .slice Aq nq cq, .slice Aqd nqd cqd] := x1.set 2 (.slice Aqd nqd cqd)
      replace UP := UP.setCell (p := ⟨gx1, 2, none⟩) (by dsimp only; omega) (.slice Aqd nqd cqd)
      clear KW
      generalize ((((((WC).setCell ⟨gx1, 0, none⟩ (.bool (Wd.ngb X.num)))).setCell ⟨gx1, 1, none⟩ (.slice Aq nq cq))).setCell ⟨gx1, 2, none⟩ (.slice Aqd nqd cqd)) = WD at *
      obtain ⟨WC, hWC⟩ : ∃ W, W = WD := ⟨_, rfl⟩
      subst hWC
      clear b0_0 b0_1 b0_2 b0_3 b0_4 b0_5 b0_6 b0_7 b0_8 b0_9 b0_10 b0_11 b0_12 b0_13 b0_14 b0_15 b0_16
      have b0_0 := b0.cell (i := 0) rfl
      have b0_1 := b0.cell (i := 1) rfl
      have b0_2 := b0.cell (i := 2) rfl
      have b0_3 := b0.cell (i := 3) rfl
      have b0_4 := b0.cell (i := 4) rfl
      have b0_5 := b0.cell (i := 5) rfl
      have b0_6 := b0.cell (i := 6) rfl
      have b0_7 := b0.cell (i := 7) rfl
      have b0_8 := b0.cell (i := 8) rfl
      have b0_9 := b0.cell (i := 9) rfl
      have b0_10 := b0.cell (i := 10) rfl
      have b0_11 := b0.cell (i := 11) rfl
      have b0_12 := b0.cell (i := 12) rfl
      have b0_13 := b0.cell (i := 13) rfl
      have b0_14 := b0.cell (i := 14) rfl
      have b0_15 := b0.cell (i := 15) rfl
      have b0_16 := b0.cell (i := 16) rfl
      clear b1_0 b1_1 b1_2
      obtain ⟨b1_0, b1_1, b1_2⟩ := b1.c3
      replace r0_f0 := r0.free 0
      replace r0_f1 := r0.free 1
      replace r0_f2 := r0.free 2
      clear r0_0 r0_1 r0_2
      obtain ⟨r0_0, r0_1, r0_2⟩ := r0.c3
      clear x5_0 x5_1 x5_2
      obtain ⟨x5_0, x5_1, x5_2⟩ := x5.c3
      refine hK.out _ _ (by exact ⟨UP, b0_0, b0_1, b0_2, b0_3, b0_4, b0_5, b0_6, b0_7, b0_8, b0_9, b0_10, b0_11, b0_12, b0_13, b0_14, b0_15, b0_16, b1_0, b1_1, b1_2, x5_0, x5_1, x5_2⟩) (fun hHeld => ?_)
      clear hK K
      try simp only [List.getElem_toArray, List.getElem_cons_zero, List.getElem_cons_succ, Act.put, List.setIfInBounds_toArray, List.set_cons_zero, List.set_cons_succ])
   | refine wpAnyH_done (by decide +kernel) (NoPanic.normal ?_) _
   | fail
  all_goals try clear hHeld
  all_goals obtain ⟨x1_0, x1_1, x1_2⟩ := x1.c3
  all_goals
   go_wp2_with fail
   go_meet
   exact ⟨gx1, _, _, _, _, _, _, rfl, x1, qw_of2 q qd, b0, r0, x5, qw_of2 yy yyd, M3, M4, UP⟩
 case rest =>
  obtain ⟨g6, A, D, n, c, m, d, rfl, x6b, XQ, b0, r0, x5, YQ, M3, M4, UP⟩ := hcut
  clear b0_0 b0_1 b0_2 b0_3 b0_4 b0_5 b0_6 b0_7 b0_8 b0_9 b0_10 b0_11 b0_12 b0_13 b0_14 b0_15 b0_16 b1_0 b1_1 b1_2 b1 r0_0 r0_1 r0_2 r0_f0 r0_f1 r0_f2 x5_0 x5_1 x5_2 yy yyd x6 xd6 M1 M2
  obtain ⟨r0_0, r0_1, r0_2⟩ := r0.c3
  have r0_f0 := r0.free 0
  have r0_f1 := r0.free 1
  have r0_f2 := r0.free 2
  obtain ⟨x5_0, x5_1, x5_2⟩ := x5.c3
  obtain ⟨x6b_0, x6b_1, x6b_2⟩ := x6b.c3
  go_wp2_with fail
  ((with_reducible refine (ref9_floor XQ LX (by omega)).mono ?_))
  rintro e W51 ⟨V51, rfl, f, u51⟩
  replace XQ := XQ.up u51
  replace YQ := YQ.up u51
  replace M3 := M3.up u51
  replace M4 := M4.up u51
  replace b0 := b0.up u51
  replace r0 := r0.up u51
  replace x5 := x5.up u51
  replace x6b := x6b.up u51
  replace UP := UP.trans u51
  clear r0_0 r0_1 r0_2 x5_0 x5_1 x5_2 x6b_0 x6b_1 x6b_2
  obtain ⟨r0_0, r0_1, r0_2⟩ := r0.c3
  replace r0_f0 := r0.free 0
  replace r0_f1 := r0.free 1
  replace r0_f2 := r0.free 2
  obtain ⟨x5_0, x5_1, x5_2⟩ := x5.c3
  obtain ⟨x6b_0, x6b_1, x6b_2⟩ := x6b.c3
  clear u51
  rw [HF.out] at f
  obtain ⟨Xf, rfl, f⟩ := f
  obtain ⟨Af, nf, cf, rfl⟩ := f.shape
  clear XQ
  have r0_0a := fun O0 => (cell_alloc (o := O0) r0_0)
  have r0_f0a := fun O0 => (r0.up ((Up.refl W51).alloc O0)).free 0
  have r0_1a := fun O0 => (cell_alloc (o := O0) r0_1)
  have r0_f1a := fun O0 => (r0.up ((Up.refl W51).alloc O0)).free 1
  have r0_2a := fun O0 => (cell_alloc (o := O0) r0_2)
  have r0_f2a := fun O0 => (r0.up ((Up.refl W51).alloc O0)).free 2
  have x5_0a := fun O0 => (cell_alloc (o := O0) x5_0)
  have x5_1a := fun O0 => (cell_alloc (o := O0) x5_1)
  have x5_2a := fun O0 => (cell_alloc (o := O0) x5_2)
  have x6b_0a := fun O0 => (cell_alloc (o := O0) x6b_0)
  have x6b_1a := fun O0 => (cell_alloc (o := O0) x6b_1)
  have x6b_2a := fun O0 => (cell_alloc (o := O0) x6b_2)
  go_upto_region 6 with fail
  clear r0_0a r0_f0a r0_1a r0_f1a r0_2a r0_f2a x5_0a x5_1a x5_2a x6b_0a x6b_1a x6b_2a
  have x7 := Bx.new 134 W51 [.bool (Wd.ngb F), .slice Af nf cf]
  have b0_lt_x7 := b0.lt
  have r0_lt_x7 := r0.lt
  have x5_lt_x7 := x5.lt
  have x6b_lt_x7 := x6b.lt
  have nu := ((Up.refl W51).alloc (.cells #[.bool (Wd.ngb F), .slice Af nf cf] 134))
  replace YQ := YQ.up nu
  replace M3 := M3.up nu
  replace M4 := M4.up nu
  replace f := f.up nu
  replace b0 := b0.up nu
  replace r0 := r0.up nu
  replace x5 := x5.up nu
  replace x6b := x6b.up nu
  replace UP := UP.trans nu
  clear nu
  generalize (W51.alloc (.cells #[.bool (Wd.ngb F), .slice Af nf cf] 134)) = W52 at *
  clear r0_0 r0_1 r0_2 x5_0 x5_1 x5_2 x6b_0 x6b_1 x6b_2
  obtain ⟨r0_0, r0_1, r0_2⟩ := r0.c3
  replace r0_f0 := r0.free 0
  replace r0_f1 := r0.free 1
  replace r0_f2 := r0.free 2
  obtain ⟨x5_0, x5_1, x5_2⟩ := x5.c3
  obtain ⟨x6b_0, x6b_1, x6b_2⟩ := x6b.c3
  obtain ⟨x7_0, x7_1⟩ := x7.c2
  go_cut [8] (fun s8 wx => ∃ (g : Nat) (A D : Option Addr) (n c m d : Nat), s8 = .pointer (some ⟨g, 0, none⟩) ∧ Bx 24 wx g [.bool (Wd.ngb Dn.num), .slice A n c, .slice D m d] ∧ Qw wx (.agg #[.bool (Wd.ngb Dn.num), .slice A n c, .slice D m d]) Dn ∧ Bx 26 wx w.heap.size [.bool s1, .slice A1 l1.length c1, .slice D1 m1.length e1, .bool s2, .slice A2 l2.length c2, .slice D2 m2.length e2, .bool s3, .slice A3 l3.length c3, .slice D3 m3.length e3, .bool s4, .slice A4 l4.length c4, .slice D4 m4.length e4, .bool s5, .slice A5 l5.length c5, .slice D5 m5.length e5, .int .i64 fi, .int .i64 mo] ∧ Bx 24 wx (w.heap.size + 1 + 1) [.bool false, .slice none 0 0, .slice none 0 0] ∧ Qw wx (.agg #[.bool s3, .slice A3 l3.length c3, .slice D3 m3.length e3]) low ∧ Qw wx (.agg #[.bool s4, .slice A4 l4.length c4, .slice D4 m4.length e4]) high ∧ w.heap.size + 2 < g ∧ Up w wx)
  case first =>
   replace YQ := YQ.up (Up.refl W52).drew
   replace M3 := M3.up (Up.refl W52).drew
   replace M4 := M4.up (Up.refl W52).drew
   replace f := f.up (Up.refl W52).drew
   replace b0 := b0.up (Up.refl W52).drew
   replace r0 := r0.up (Up.refl W52).drew
   replace x5 := x5.up (Up.refl W52).drew
   replace x6b := x6b.up (Up.refl W52).drew
   replace x7 := x7.up (Up.refl W52).drew
   replace UP := UP.trans (Up.refl W52).drew
   clear r0_0 r0_1 r0_2 x5_0 x5_1 x5_2 x6b_0 x6b_1 x6b_2 x7_0 x7_1
   obtain ⟨r0_0, r0_1, r0_2⟩ := r0.c3
   replace r0_f0 := r0.free 0
   replace r0_f1 := r0.free 1
   replace r0_f2 := r0.free 2
   obtain ⟨x5_0, x5_1, x5_2⟩ := x5.c3
   obtain ⟨x6b_0, x6b_1, x6b_2⟩ := x6b.c3
   obtain ⟨x7_0, x7_1⟩ := x7.c2
   refine wp_region_noPanic ?_
   refine wp_region_held_drew (S := fun w' => Up w w' ∧ w'.cell? ⟨W2.heap.size, 0, none⟩ = some (.bool (Wd.ngb y.num)) ∧ w'.cell? ⟨W2.heap.size, 1, none⟩ = some (.slice Ayy nyy cyy) ∧ w'.cell? ⟨W2.heap.size, 2, none⟩ = some (.slice Ayyd nyyd cyyd) ∧ w'.cell? ⟨W51.heap.size, 0, none⟩ = some (.bool (Wd.ngb F)) ∧ w'.cell? ⟨W51.heap.size, 1, none⟩ = some (.slice Af nf cf)) (by kernel_rfl) (by exact ⟨UP, x5_0, x5_1, x5_2, x7_0, x7_1⟩) (fun hHeld => ?_)
   clear hHeld
   generalize W52.drew = WC at *
   have hHeld : Up w WC ∧ WC.cell? ⟨W2.heap.size, 0, none⟩ = some (.bool (Wd.ngb y.num)) ∧ WC.cell? ⟨W2.heap.size, 1, none⟩ = some (.slice Ayy nyy cyy) ∧ WC.cell? ⟨W2.heap.size, 2, none⟩ = some (.slice Ayyd nyyd cyyd) ∧ WC.cell? ⟨W51.heap.size, 0, none⟩ = some (.bool (Wd.ngb F)) ∧ WC.cell? ⟨W51.heap.size, 1, none⟩ = some (.slice Af nf cf) := by exact ⟨UP, x5_0, x5_1, x5_2, x7_0, x7_1⟩
   refine wpAnyH_take (i := 0) (v := ?_) rfl (by kernel_rfl) (by decide +kernel) (by decide +kernel) (fun _ _ _ h => h) (Or.inl ⟨by rfl, ?_⟩) (by assumption) ?_
   rotate_left
   · (intro w hSw; (try dsimp only at hSw); go_simp; first | done | with_reducible rfl)
   try simp only [List.getElem_toArray, List.getElem_cons_zero, List.getElem_cons_succ, Act.put, List.setIfInBounds_toArray, List.set_cons_zero, List.set_cons_succ]
   refine wpAnyH_take (i := 6) (v := ?_) rfl (by kernel_rfl) (by decide +kernel) (by decide +kernel) (fun _ _ _ h => h) (Or.inl ⟨by rfl, ?_⟩) (by assumption) ?_
   rotate_left
   · (intro w hSw; (try dsimp only at hSw); go_simp; first | done | with_reducible rfl)
   try simp only [List.getElem_toArray, List.getElem_cons_zero, List.getElem_cons_succ, Act.put, List.setIfInBounds_toArray, List.set_cons_zero, List.set_cons_succ]
   repeat' first
    | (refine wpAnyH_take (i := 2) (v := ?_) rfl (by kernel_rfl) (by decide +kernel) (by decide +kernel) (fun _ _ _ h => h) (Or.inl ⟨by rfl, ?_⟩) (by assumption) ?_
       rotate_left
       · (intro w hSw; (try dsimp only at hSw); go_simp; first | done | with_reducible rfl)
       try simp only [List.getElem_toArray, List.getElem_cons_zero, List.getElem_cons_succ, Act.put, List.setIfInBounds_toArray, List.set_cons_zero, List.set_cons_succ])
    | (refine wpAnyH_take (i := 4) (v := ?_) rfl (by kernel_rfl) (by decide +kernel) (by decide +kernel) (fun _ _ _ h => h) (Or.inl ⟨by rfl, ?_⟩) (by assumption) ?_
       rotate_left
       · (intro w hSw; (try dsimp only at hSw); go_simp; first | done | with_reducible rfl)
       try simp only [List.getElem_toArray, List.getElem_cons_zero, List.getElem_cons_succ, Act.put, List.setIfInBounds_toArray, List.set_cons_zero, List.set_cons_succ])
    | refine wpAnyH_ready (rs := [1, 3, 8]) (by decide +kernel) (by simp) ?_
    | refine wpAnyH_ready (rs := [1, 3]) (by decide +kernel) (by simp) ?_
    | refine wpAnyH_ready (rs := [1, 8]) (by decide +kernel) (by simp) ?_
    | refine wpAnyH_ready (rs := [1]) (by decide +kernel) (by simp) ?_
    | refine wpAnyH_ready (rs := [3, 8]) (by decide +kernel) (by simp) ?_
    | refine wpAnyH_ready (rs := [3]) (by decide +kernel) (by simp) ?_
    | refine wpAnyH_ready (rs := [5, 8]) (by decide +kernel) (by simp) ?_
    | refine wpAnyH_ready (rs := [5]) (by decide +kernel) (by simp) ?_
    | refine wpAnyH_ready (rs := [7, 8]) (by decide +kernel) (by simp) ?_
    | refine wpAnyH_ready (rs := [7]) (by decide +kernel) (by simp) ?_
    | refine wpAnyH_ready (rs := [8]) (by decide +kernel) (by simp) ?_
    | refine wpAnyH_ready (rs := [9]) (by decide +kernel) (by simp) ?_
    | refine AllReadyH.cons (i := 1) rfl (fun K hK1 => ?_) ?_
    | refine AllReadyH.cons (i := 3) rfl (fun K hK3 => ?_) ?_
    | refine AllReadyH.cons (i := 5) rfl (fun K hK5 => ?_) ?_
    | refine AllReadyH.cons (i := 7) rfl (fun K hK7 => ?_) ?_
    | refine AllReadyH.cons (i := 8) rfl (fun K hK8 => ?_) ?_
    | refine AllReadyH.cons (i := 9) rfl (fun K hK9 => ?_) ?_
    | exact AllReadyH.nil
    | (have hK := hK1
       clear hK1
       (try clear hHeld)
       go_simp
       go_at_call 123
       ((with_reducible refine (ref8_norm ((zw_of f).wh LF) (by omega)).mono ?_))
       rintro e WD ⟨V1, rfl, z, uu⟩
       replace YQ := YQ.up uu
       replace M3 := M3.up uu
       replace M4 := M4.up uu
       replace f := f.up uu
       try (replace p := p.up uu)
       try (replace q := q.up uu)
       try (replace qd := qd.up uu)
       replace b0 := b0.up uu
       replace r0 := r0.up uu
       replace x5 := x5.up uu
       replace x6b := x6b.up uu
       replace x7 := x7.up uu
       try (replace y1 := y1.up uu)
       try (replace x1 := x1.up uu)
       replace UP := UP.trans uu
       clear uu
       obtain ⟨WC, hWC⟩ : ∃ W, W = WD := ⟨_, rfl⟩
       subst hWC
       replace r0_f0 := r0.free 0
       replace r0_f1 := r0.free 1
       replace r0_f2 := r0.free 2
       clear r0_0 r0_1 r0_2
       obtain ⟨r0_0, r0_1, r0_2⟩ := r0.c3
       clear x5_0 x5_1 x5_2
       obtain ⟨x5_0, x5_1, x5_2⟩ := x5.c3
       clear x6b_0 x6b_1 x6b_2
       obtain ⟨x6b_0, x6b_1, x6b_2⟩ := x6b.c3
       clear x7_0 x7_1
       obtain ⟨x7_0, x7_1⟩ := x7.c2
       obtain ⟨Xz, rfl, z⟩ := z
       obtain ⟨Az, nz, cz, rfl⟩ := z.shape
       try go_wp2_with fail
       refine hK.out _ _ (by exact ⟨UP, x5_0, x5_1, x5_2, x7_0, x7_1⟩) (fun hHeld => ?_)
       clear hK K
       try simp only [List.getElem_toArray, List.getElem_cons_zero, List.getElem_cons_succ, Act.put, List.setIfInBounds_toArray, List.set_cons_zero, List.set_cons_succ])
    | (have hK := hK3
       clear hK3
       (try clear hHeld)
       go_simp
       have y1 := Bx.new 122 WC [.int .u32 1]
       have b0_lt_y1 := b0.lt
       have r0_lt_y1 := r0.lt
       have x5_lt_y1 := x5.lt
       have x6b_lt_y1 := x6b.lt
       have x7_lt_y1 := x7.lt
       have y1_base := UP.size
       try (have x1_lt_y1 := x1.lt)
       have nu := ((Up.refl WC).alloc (.cells #[.int .u32 1] 122))
       replace YQ := YQ.up nu
       replace M3 := M3.up nu
       replace M4 := M4.up nu
       replace f := f.up nu
       try (replace z := z.up nu)
       try (replace p := p.up nu)
       try (replace q := q.up nu)
       try (replace qd := qd.up nu)
       replace b0 := b0.up nu
       replace r0 := r0.up nu
       replace x5 := x5.up nu
       replace x6b := x6b.up nu
       replace x7 := x7.up nu
       try (replace x1 := x1.up nu)
       replace UP := UP.trans nu
       clear nu
       generalize WC.alloc (.cells #[.int .u32 1] 122) = WD at *
       generalize WC.heap.size = gy1 at *
       obtain ⟨WC, hWC⟩ : ∃ W, W = WD := ⟨_, rfl⟩
       subst hWC
       replace r0_f0 := r0.free 0
       replace r0_f1 := r0.free 1
       replace r0_f2 := r0.free 2
       clear r0_0 r0_1 r0_2
       obtain ⟨r0_0, r0_1, r0_2⟩ := r0.c3
       clear x5_0 x5_1 x5_2
       obtain ⟨x5_0, x5_1, x5_2⟩ := x5.c3
       clear x6b_0 x6b_1 x6b_2
       obtain ⟨x6b_0, x6b_1, x6b_2⟩ := x6b.c3
       clear x7_0 x7_1
       obtain ⟨x7_0, x7_1⟩ := x7.c2
       refine hK.out _ _ (by exact ⟨UP, x5_0, x5_1, x5_2, x7_0, x7_1⟩) (fun hHeld => ?_)
       clear hK K
       try simp only [List.getElem_toArray, List.getElem_cons_zero, List.getElem_cons_succ, Act.put, List.setIfInBounds_toArray, List.set_cons_zero, List.set_cons_succ])
    | (have hK := hK5
       clear hK5
       (try clear hHeld)
       go_simp
       go_at_call 24
       ((with_reducible refine (ref9_norm (Fr.mk' (k := 100000) false z (bx_ws1 y1) HNQ.out (by have := LFN.out; omega) (by simp) (by omega)) (by omega)).mono ?_))
       rintro e WD ⟨V5, rfl, p, uu⟩
       replace YQ := YQ.up uu
       replace M3 := M3.up uu
       replace M4 := M4.up uu
       replace f := f.up uu
       try (replace z := z.up uu)
       try (replace q := q.up uu)
       try (replace qd := qd.up uu)
       replace b0 := b0.up uu
       replace r0 := r0.up uu
       replace x5 := x5.up uu
       replace x6b := x6b.up uu
       replace x7 := x7.up uu
       try (replace y1 := y1.up uu)
       try (replace x1 := x1.up uu)
       replace UP := UP.trans uu
       clear uu
       obtain ⟨WC, hWC⟩ : ∃ W, W = WD := ⟨_, rfl⟩
       subst hWC
       replace r0_f0 := r0.free 0
       replace r0_f1 := r0.free 1
       replace r0_f2 := r0.free 2
       clear r0_0 r0_1 r0_2
       obtain ⟨r0_0, r0_1, r0_2⟩ := r0.c3
       clear x5_0 x5_1 x5_2
       obtain ⟨x5_0, x5_1, x5_2⟩ := x5.c3
       clear x6b_0 x6b_1 x6b_2
       obtain ⟨x6b_0, x6b_1, x6b_2⟩ := x6b.c3
       clear x7_0 x7_1
       obtain ⟨x7_0, x7_1⟩ := x7.c2
       try go_wp2_with fail
       refine hK.out _ _ (by exact ⟨UP, x5_0, x5_1, x5_2, x7_0, x7_1⟩) (fun hHeld => ?_)
       clear hK K
       try simp only [List.getElem_toArray, List.getElem_cons_zero, List.getElem_cons_succ, Act.put, List.setIfInBounds_toArray, List.set_cons_zero, List.set_cons_succ])
    | (have hK := hK7
       clear hK7
       (try clear hHeld)
       go_simp
       go_at_call 100
       ((with_reducible refine (ref9_quo p YQ LFR LY (by omega) (by omega)).mono ?_))
       rintro e WD ⟨V7, rfl, q, uu⟩
       replace YQ := YQ.up uu
       replace M3 := M3.up uu
       replace M4 := M4.up uu
       replace f := f.up uu
       try (replace z := z.up uu)
       try (replace p := p.up uu)
       try (replace qd := qd.up uu)
       replace b0 := b0.up uu
       replace r0 := r0.up uu
       replace x5 := x5.up uu
       replace x6b := x6b.up uu
       replace x7 := x7.up uu
       try (replace y1 := y1.up uu)
       try (replace x1 := x1.up uu)
       replace UP := UP.trans uu
       clear uu
       obtain ⟨WC, hWC⟩ : ∃ W, W = WD := ⟨_, rfl⟩
       subst hWC
       replace r0_f0 := r0.free 0
       replace r0_f1 := r0.free 1
       replace r0_f2 := r0.free 2
       clear r0_0 r0_1 r0_2
       obtain ⟨r0_0, r0_1, r0_2⟩ := r0.c3
       clear x5_0 x5_1 x5_2
       obtain ⟨x5_0, x5_1, x5_2⟩ := x5.c3
       clear x6b_0 x6b_1 x6b_2
       obtain ⟨x6b_0, x6b_1, x6b_2⟩ := x6b.c3
       clear x7_0 x7_1
       obtain ⟨x7_0, x7_1⟩ := x7.c2
       rw [HG.out] at q
       obtain ⟨Xq, Yq, rfl, q, qd⟩ := q
       obtain ⟨Aq, nq, cq, rfl⟩ := q.shape
       obtain ⟨Aqd, nqd, cqd, rfl⟩ := qd.shape
       try go_wp2_with fail
       refine hK.out _ _ (by exact ⟨UP, x5_0, x5_1, x5_2, x7_0, x7_1⟩) (fun hHeld => ?_)
       clear hK K
       try simp only [List.getElem_toArray, List.getElem_cons_zero, List.getElem_cons_succ, Act.put, List.setIfInBounds_toArray, List.set_cons_zero, List.set_cons_succ])
    | (have hK := hK8
       clear hK8
       (try clear hHeld)
       go_simp
       have x1 := Bx.new 24 WC [.bool false, .slice none 0 0, .slice none 0 0]
       have b0_lt_x1 := b0.lt
       have r0_lt_x1 := r0.lt
       have x5_lt_x1 := x5.lt
       have x6b_lt_x1 := x6b.lt
       have x7_lt_x1 := x7.lt
       have x1_base := UP.size
       try (have y1_lt_x1 := y1.lt)
       have nu := ((Up.refl WC).alloc (.cells #[.bool false, .slice none 0 0, .slice none 0 0] 24))
       replace YQ := YQ.up nu
       replace M3 := M3.up nu
       replace M4 := M4.up nu
       replace f := f.up nu
       try (replace z := z.up nu)
       try (replace p := p.up nu)
       try (replace q := q.up nu)
       try (replace qd := qd.up nu)
       replace b0 := b0.up nu
       replace r0 := r0.up nu
       replace x5 := x5.up nu
       replace x6b := x6b.up nu
       replace x7 := x7.up nu
       try (replace y1 := y1.up nu)
       replace UP := UP.trans nu
       clear nu
       generalize WC.alloc (.cells #[.bool false, .slice none 0 0, .slice none 0 0] 24) = WD at *
       generalize WC.heap.size = gx1 at *
       obtain ⟨WC, hWC⟩ : ∃ W, W = WD := ⟨_, rfl⟩
       subst hWC
       replace r0_f0 := r0.free 0
       replace r0_f1 := r0.free 1
       replace r0_f2 := r0.free 2
       clear r0_0 r0_1 r0_2
       obtain ⟨r0_0, r0_1, r0_2⟩ := r0.c3
       clear x5_0 x5_1 x5_2
       obtain ⟨x5_0, x5_1, x5_2⟩ := x5.c3
       clear x6b_0 x6b_1 x6b_2
       obtain ⟨x6b_0, x6b_1, x6b_2⟩ := x6b.c3
       clear x7_0 x7_1
       obtain ⟨x7_0, x7_1⟩ := x7.c2
       refine hK.out _ _ (by exact ⟨UP, x5_0, x5_1, x5_2, x7_0, x7_1⟩) (fun hHeld => ?_)
       clear hK K
       try simp only [List.getElem_toArray, List.getElem_cons_zero, List.getElem_cons_succ, Act.put, List.setIfInBounds_toArray, List.set_cons_zero, List.set_cons_succ])
    | (have hK := hK9
       clear hK9
       (try clear hHeld)
       obtain ⟨ce0, ce1, ce2⟩ := x1.c3
       have fr0 := x1.free 0
       have fr1 := x1.free 1
       have fr2 := x1.free 2
       go_simp
       clear ce0 ce1 ce2 fr0 fr1 fr2
       have KW : Kw (WC) ((WC).setCell ⟨gx1, 0, none⟩ (.bool (Wd.ngb Dn.num))) := Kw.store (c := (.bool false)) x1 rfl trivial _
       replace YQ := YQ.kw KW
       replace M3 := M3.kw KW
       replace M4 := M4.kw KW
       replace f := f.kw KW
       try (replace z := z.kw KW)
       try (replace p := p.kw KW)
       try (replace q := q.kw KW)
       try (replace qd := qd.kw KW)
       replace b0 := b0.far (p := ⟨gx1, 0, none⟩) (by dsimp only; omega) (.bool (Wd.ngb Dn.num))
       replace r0 := r0.far (p := ⟨gx1, 0, none⟩) (by dsimp only; omega) (.bool (Wd.ngb Dn.num))
       replace x5 := x5.far (p := ⟨gx1, 0, none⟩) (by dsimp only; omega) (.bool (Wd.ngb Dn.num))
       replace x6b := x6b.far (p := ⟨gx1, 0, none⟩) (by dsimp only; omega) (.bool (Wd.ngb Dn.num))
       replace x7 := x7.far (p := ⟨gx1, 0, none⟩) (by dsimp only; omega) (.bool (Wd.ngb Dn.num))
       replace y1 := y1.far (p := ⟨gx1, 0, none⟩) (by dsimp only; first | omega | (have := y1_lt_x1; omega) | (have := x1_lt_y1; omega)) (.bool (Wd.ngb Dn.num))
       replace x1 : Bx 24 ((WC).setCell ⟨gx1, 0, none⟩ (.bool (Wd.ngb Dn.num))) (gx1) [.bool (Wd.ngb Dn.num), .slice none 0 0, .slice none 0 0] := x1.set 0 (.bool (Wd.ngb Dn.num))
       replace UP := UP.setCell (p := ⟨gx1, 0, none⟩) (by dsimp only; omega) (.bool (Wd.ngb Dn.num))
       have KW : Kw (((WC).setCell ⟨gx1, 0, none⟩ (.bool (Wd.ngb Dn.num)))) ((((WC).setCell ⟨gx1, 0, none⟩ (.bool (Wd.ngb Dn.num)))).setCell ⟨gx1, 1, none⟩ (.slice Aq nq cq)) := Kw.store (c := (.slice none 0 0)) x1 rfl trivial _
       replace YQ := YQ.kw KW
       replace M3 := M3.kw KW
       replace M4 := M4.kw KW
       replace f := f.kw KW
       try (replace z := z.kw KW)
       try (replace p := p.kw KW)
       try (replace q := q.kw KW)
       try (replace qd := qd.kw KW)
       replace b0 := b0.far (p := ⟨gx1, 1, none⟩) (by dsimp only; omega) (.slice Aq nq cq)
       replace r0 := r0.far (p := ⟨gx1, 1, none⟩) (by dsimp only; omega) (.slice Aq nq cq)
       replace x5 := x5.far (p := ⟨gx1, 1, none⟩) (by dsimp only; omega) (.slice Aq nq cq)
       replace x6b := x6b.far (p := ⟨gx1, 1, none⟩) (by dsimp only; omega) (.slice Aq nq cq)
       replace x7 := x7.far (p := ⟨gx1, 1, none⟩) (by dsimp only; omega) (.slice Aq nq cq)
       replace y1 := y1.far (p := ⟨gx1, 1, none⟩) (by dsimp only; first | omega | (have := y1_lt_x1; omega) | (have := x1_lt_y1; omega)) (.slice Aq nq cq)
       replace x1 : Bx 24 ((((WC).setCell ⟨gx1, 0, none⟩ (.bool (Wd.ngb Dn.num)))).setCell ⟨gx1, 1, none⟩ (.slice Aq nq cq)) (gx1) [.bool (Wd.ngb Dn.num), .slice Aq nq cq, .slice none 0 0] := x1.set 1 (.slice Aq nq cq)
       replace UP := UP.setCell (p := ⟨gx1, 1, none⟩) (by dsimp only; omega) (.slice Aq nq cq)
       have KW : Kw (((((WC).setCell ⟨gx1, 0, none⟩ (.bool (Wd.ngb Dn.num)))).setCell ⟨gx1, 1, none⟩ (.slice Aq nq cq))) ((((((WC).setCell ⟨gx1, 0, none⟩ (.bool (Wd.ngb Dn.num)))).setCell ⟨gx1, 1, none⟩ (.slice Aq nq cq))).setCell ⟨gx1, 2, none⟩ (.slice Aqd nqd cqd)) := Kw.store (c := (.slice none 0 0)) x1 rfl trivial _
       replace YQ := YQ.kw KW
       replace M3 := M3.kw KW
       replace M4 := M4.kw KW
       replace f := f.kw KW
       try (replace z := z.kw KW)
       try (replace p := p.kw KW)
       try (replace q := q.kw KW)
       try (replace qd := qd.kw KW)
       replace b0 := b0.far (p := ⟨gx1, 2, none⟩) (by dsimp only; omega) (.slice Aqd nqd cqd)
       replace r0 := r0.far (p := ⟨gx1, 2, none⟩) (by dsimp only; omega) (.slice Aqd nqd cqd)
       replace x5 := x5.far (p := ⟨gx1, 2, none⟩) (by dsimp only; omega) (.slice Aqd nqd cqd)
       replace x6b := x6b.far (p := ⟨gx1, 2, none⟩) (by dsimp only; omega) (.slice Aqd nqd cqd)
       replace x7 := x7.far (p := ⟨gx1, 2, none⟩) (by dsimp only; omega) (.slice Aqd nqd cqd)
       replace y1 := y1.far (p := ⟨gx1, 2, none⟩) (by dsimp only; first | omega | (have := y1_lt_x1; omega) | (have := x1_lt_y1; omega)) (.slice Aqd nqd cqd)
       replace x1 : Bx 24 ((((((WC).setCell ⟨gx1, 0, none⟩ (.bool (Wd.ngb Dn.num)))).setCell ⟨gx1, 1, none⟩ (.slice Aq nq cq))).setCell ⟨gx1, 2, none⟩ (.slice Aqd nqd cqd)) (gx1) [.bool (Wd.ngb Dn.num), .slice Aq nq cq, .slice Aqd nqd cqd] := x1.set 2 (.slice Aqd nqd cqd)
       replace UP := UP.setCell (p := ⟨gx1, 2, none⟩) (by dsimp only; omega) (.slice Aqd nqd cqd)
       clear KW
       generalize ((((((WC).setCell ⟨gx1, 0, none⟩ (.bool (Wd.ngb Dn.num)))).setCell ⟨gx1, 1, none⟩ (.slice Aq nq cq))).setCell ⟨gx1, 2, none⟩ (.slice Aqd nqd cqd)) = WD at *
       obtain ⟨WC, hWC⟩ : ∃ W, W = WD := ⟨_, rfl⟩
       subst hWC
       replace r0_f0 := r0.free 0
       replace r0_f1 := r0.free 1
       replace r0_f2 := r0.free 2
       clear r0_0 r0_1 r0_2
       obtain ⟨r0_0, r0_1, r0_2⟩ := r0.c3
       clear x5_0 x5_1 x5_2
       obtain ⟨x5_0, x5_1, x5_2⟩ := x5.c3
       clear x6b_0 x6b_1 x6b_2
       obtain ⟨x6b_0, x6b_1, x6b_2⟩ := x6b.c3
       clear x7_0 x7_1
       obtain ⟨x7_0, x7_1⟩ := x7.c2
       refine hK.out _ _ (by exact ⟨UP, x5_0, x5_1, x5_2, x7_0, x7_1⟩) (fun hHeld => ?_)
       clear hK K
       try simp only [List.getElem_toArray, List.getElem_cons_zero, List.getElem_cons_succ, Act.put, List.setIfInBounds_toArray, List.set_cons_zero, List.set_cons_succ])
    | refine wpAnyH_done (by decide +kernel) (NoPanic.normal ?_) _
    | fail
   all_goals try clear hHeld
   all_goals have y1_0 := y1.c1
   all_goals obtain ⟨x1_0, x1_1, x1_2⟩ := x1.c3
   all_goals
    have hlt9 := r0_lt_x1
    go_wp2_with fail
    go_meet
    exact ⟨gx1, _, _, _, _, _, _, rfl, x1, qw_of2 q qd, b0, r0, M3, M4, by omega, UP⟩
  case rest =>
   obtain ⟨g8, A', D', n', c', m', d', rfl, x8, XD, b0, r0, M3, M4, hg8, UP⟩ := hcut
   have hbase : w.heap.size < g8 := by omega
   have hgn : ¬ (g8 = w.heap.size) := by omega
   clear x7_0 x7_1 x7 x6b_0 x6b_1 x6b_2 x6b x5_0 x5_1 x5_2 x5 YQ f r0_0 r0_1 r0_2 r0_f0 r0_f1 r0_f2
   have HN3 := Lib.hid (Pc.lt_iff Dn low)
   obtain ⟨z3, HZ3⟩ : ∃ z, Hid (Wd.cmpQ Dn low = z) := ⟨_, Lib.hid rfl⟩
   rw [HZ3.out] at HN3
   have HN4 := Lib.hid (Wd.cmpQ_pos Dn high)
   obtain ⟨z4, HZ4⟩ : ∃ z, Hid (Wd.cmpQ Dn high = z) := ⟨_, Lib.hid rfl⟩
   rw [HZ4.out] at HN4
   have HN5 := Lib.hid (Wd.cmpQ_pos low high)
   obtain ⟨z5, HZ5⟩ : ∃ z, Hid (Wd.cmpQ low high = z) := ⟨_, Lib.hid rfl⟩
   rw [HZ5.out] at HN5
   obtain ⟨r0_0, r0_1, r0_2⟩ := r0.c3
   have r0_f0 := r0.free 0
   have r0_f1 := r0.free 1
   have r0_f2 := r0.free 2
   obtain ⟨x8_0, x8_1, x8_2⟩ := x8.c3
   have x8_f0 := x8.free 0
   have x8_f1 := x8.free 1
   have x8_f2 := x8.free 2
   have b0_6 := b0.cell (i := 6) rfl
   have b0_7 := b0.cell (i := 7) rfl
   have b0_8 := b0.cell (i := 8) rfl
   go_wp2_with fail
   ((with_reducible refine (ref9_cmp XD M3 LDN L3 (by omega) (by omega)).mono ?_))
   rintro e W51 ⟨rfl, u51⟩
   replace M3 := M3.up u51
   replace M4 := M4.up u51
   replace XD := XD.up u51
   replace b0 := b0.up u51
   replace r0 := r0.up u51
   replace x8 := x8.up u51
   replace UP := UP.trans u51
   clear r0_0 r0_1 r0_2 x8_0 x8_1 x8_2 b0_6 b0_7 b0_8
   obtain ⟨r0_0, r0_1, r0_2⟩ := r0.c3
   replace r0_f0 := r0.free 0
   replace r0_f1 := r0.free 1
   replace r0_f2 := r0.free 2
   obtain ⟨x8_0, x8_1, x8_2⟩ := x8.c3
   replace x8_f0 := x8.free 0
   replace x8_f1 := x8.free 1
   replace x8_f2 := x8.free 2
   clear u51
   rw [HZ3.out]
   by_cases hl : Dn < low
   · have k2 : z3 < 0 := HN3.out.2 hl
     have HE2 : Hid (low = R) := Lib.hid (by rw [HE.out, if_pos hl])
     have k3 : ¬ (z5 > 0) := fun hh => absurd (HN5.out.1 hh) (Rat.not_lt.2 (Rat.le_of_lt hlh.out))
     clear hl
     clear XD
     have b0_6 := b0.cell (i := 6) rfl
     have b0_7 := b0.cell (i := 7) rfl
     have b0_8 := b0.cell (i := 8) rfl
     have b0_9 := b0.cell (i := 9) rfl
     have b0_10 := b0.cell (i := 10) rfl
     have b0_11 := b0.cell (i := 11) rfl
     go_wp2_with fail
     have KW : Kw (W51) ((W51).setCell ⟨g8, 0, none⟩ (.bool s3)) := Kw.store (c := (.bool (Wd.ngb Dn.num))) x8 rfl trivial _
     replace M3 := M3.kw KW
     replace M4 := M4.kw KW
     replace b0 := b0.far (p := ⟨g8, 0, none⟩) (by dsimp only; omega) (.bool s3)
     replace r0 := r0.far (p := ⟨g8, 0, none⟩) (by dsimp only; omega) (.bool s3)
     replace x8 : Bx 24 ((W51).setCell ⟨g8, 0, none⟩ (.bool s3)) (g8) [.bool s3, .slice A' n' c', .slice D' m' d'] := x8.set 0 (.bool s3)
     replace UP := UP.setCell (p := ⟨g8, 0, none⟩) (by dsimp only; omega) (.bool s3)
     have KW : Kw (((W51).setCell ⟨g8, 0, none⟩ (.bool s3))) ((((W51).setCell ⟨g8, 0, none⟩ (.bool s3))).setCell ⟨g8, 1, none⟩ (.slice A3 l3.length c3)) := Kw.store (c := (.slice A' n' c')) x8 rfl trivial _
     replace M3 := M3.kw KW
     replace M4 := M4.kw KW
     replace b0 := b0.far (p := ⟨g8, 1, none⟩) (by dsimp only; omega) (.slice A3 l3.length c3)
     replace r0 := r0.far (p := ⟨g8, 1, none⟩) (by dsimp only; omega) (.slice A3 l3.length c3)
     replace x8 : Bx 24 ((((W51).setCell ⟨g8, 0, none⟩ (.bool s3))).setCell ⟨g8, 1, none⟩ (.slice A3 l3.length c3)) (g8) [.bool s3, .slice A3 l3.length c3, .slice D' m' d'] := x8.set 1 (.slice A3 l3.length c3)
     replace UP := UP.setCell (p := ⟨g8, 1, none⟩) (by dsimp only; omega) (.slice A3 l3.length c3)
     have KW : Kw (((((W51).setCell ⟨g8, 0, none⟩ (.bool s3))).setCell ⟨g8, 1, none⟩ (.slice A3 l3.length c3))) ((((((W51).setCell ⟨g8, 0, none⟩ (.bool s3))).setCell ⟨g8, 1, none⟩ (.slice A3 l3.length c3))).setCell ⟨g8, 2, none⟩ (.slice D3 m3.length e3)) := Kw.store (c := (.slice D' m' d')) x8 rfl trivial _
     replace M3 := M3.kw KW
     replace M4 := M4.kw KW
     replace b0 := b0.far (p := ⟨g8, 2, none⟩) (by dsimp only; omega) (.slice D3 m3.length e3)
     replace r0 := r0.far (p := ⟨g8, 2, none⟩) (by dsimp only; omega) (.slice D3 m3.length e3)
     replace x8 : Bx 24 ((((((W51).setCell ⟨g8, 0, none⟩ (.bool s3))).setCell ⟨g8, 1, none⟩ (.slice A3 l3.length c3))).setCell ⟨g8, 2, none⟩ (.slice D3 m3.length e3)) (g8) [.bool s3, .slice A3 l3.length c3, .slice D3 m3.length e3] := x8.set 2 (.slice D3 m3.length e3)
     replace UP := UP.setCell (p := ⟨g8, 2, none⟩) (by dsimp only; omega) (.slice D3 m3.length e3)
     clear KW
     generalize ((((((W51).setCell ⟨g8, 0, none⟩ (.bool s3))).setCell ⟨g8, 1, none⟩ (.slice A3 l3.length c3))).setCell ⟨g8, 2, none⟩ (.slice D3 m3.length e3)) = W52 at *
     clear r0_0 r0_1 r0_2 x8_0 x8_1 x8_2 b0_6 b0_7 b0_8 b0_9 b0_10 b0_11
     obtain ⟨r0_0, r0_1, r0_2⟩ := r0.c3
     replace r0_f0 := r0.free 0
     replace r0_f1 := r0.free 1
     replace r0_f2 := r0.free 2
     obtain ⟨x8_0, x8_1, x8_2⟩ := x8.c3
     ((with_reducible refine (ref9_cmp M3 M4 L3 L4 (by omega) (by omega)).mono ?_))
     rintro e W53 ⟨rfl, u53⟩
     replace M3 := M3.up u53
     replace M4 := M4.up u53
     replace b0 := b0.up u53
     replace r0 := r0.up u53
     replace x8 := x8.up u53
     replace UP := UP.trans u53
     clear r0_0 r0_1 r0_2 x8_0 x8_1 x8_2
     obtain ⟨r0_0, r0_1, r0_2⟩ := r0.c3
     replace r0_f0 := r0.free 0
     replace r0_f1 := r0.free 1
     replace r0_f2 := r0.free 2
     obtain ⟨x8_0, x8_1, x8_2⟩ := x8.c3
     clear u53
     rw [HZ5.out]
     go_wp2_with fail
     exact end_rq rfl rfl rfl (by rw [← HE2.out]; exact M3) r0 trivial trivial trivial UP (by omega)
   · skip
     have k2 : ¬ (z3 < 0) := fun hh => hl (HN3.out.1 hh)
     have HE2 : Hid (R = if high < Dn then high else Dn) := Lib.hid (by rw [HE.out, if_neg hl])
     clear hl
     have b0_9 := b0.cell (i := 9) rfl
     have b0_10 := b0.cell (i := 10) rfl
     have b0_11 := b0.cell (i := 11) rfl
     go_wp2_with fail
     ((with_reducible refine (ref9_cmp XD M4 LDN L4 (by omega) (by omega)).mono ?_))
     rintro e W52 ⟨rfl, u52⟩
     replace M3 := M3.up u52
     replace M4 := M4.up u52
     replace XD := XD.up u52
     replace b0 := b0.up u52
     replace r0 := r0.up u52
     replace x8 := x8.up u52
     replace UP := UP.trans u52
     clear r0_0 r0_1 r0_2 x8_0 x8_1 x8_2 b0_9 b0_10 b0_11
     obtain ⟨r0_0, r0_1, r0_2⟩ := r0.c3
     replace r0_f0 := r0.free 0
     replace r0_f1 := r0.free 1
     replace r0_f2 := r0.free 2
     obtain ⟨x8_0, x8_1, x8_2⟩ := x8.c3
     replace x8_f0 := x8.free 0
     replace x8_f1 := x8.free 1
     replace x8_f2 := x8.free 2
     clear u52
     rw [HZ4.out]
     by_cases hh : high < Dn
     · have k3 : z4 > 0 := HN4.out.2 hh
       have HE3 : Hid (high = R) := Lib.hid (by rw [HE2.out, if_pos hh])
       clear hh
       clear XD
       have b0_9 := b0.cell (i := 9) rfl
       have b0_10 := b0.cell (i := 10) rfl
       have b0_11 := b0.cell (i := 11) rfl
       go_wp2_with fail
       have KW : Kw (W52) ((W52).setCell ⟨g8, 0, none⟩ (.bool s4)) := Kw.store (c := (.bool (Wd.ngb Dn.num))) x8 rfl trivial _
       replace M3 := M3.kw KW
       replace M4 := M4.kw KW
       replace b0 := b0.far (p := ⟨g8, 0, none⟩) (by dsimp only; omega) (.bool s4)
       replace r0 := r0.far (p := ⟨g8, 0, none⟩) (by dsimp only; omega) (.bool s4)
       replace x8 : Bx 24 ((W52).setCell ⟨g8, 0, none⟩ (.bool s4)) (g8) [.bool s4, .slice A' n' c', .slice D' m' d'] := x8.set 0 (.bool s4)
       replace UP := UP.setCell (p := ⟨g8, 0, none⟩) (by dsimp only; omega) (.bool s4)
       have KW : Kw (((W52).setCell ⟨g8, 0, none⟩ (.bool s4))) ((((W52).setCell ⟨g8, 0, none⟩ (.bool s4))).setCell ⟨g8, 1, none⟩ (.slice A4 l4.length c4)) := Kw.store (c := (.slice A' n' c')) x8 rfl trivial _
       replace M3 := M3.kw KW
       replace M4 := M4.kw KW
       replace b0 := b0.far (p := ⟨g8, 1, none⟩) (by dsimp only; omega) (.slice A4 l4.length c4)
       replace r0 := r0.far (p := ⟨g8, 1, none⟩) (by dsimp only; omega) (.slice A4 l4.length c4)
       replace x8 : Bx 24 ((((W52).setCell ⟨g8, 0, none⟩ (.bool s4))).setCell ⟨g8, 1, none⟩ (.slice A4 l4.length c4)) (g8) [.bool s4, .slice A4 l4.length c4, .slice D' m' d'] := x8.set 1 (.slice A4 l4.length c4)
       replace UP := UP.setCell (p := ⟨g8, 1, none⟩) (by dsimp only; omega) (.slice A4 l4.length c4)
       have KW : Kw (((((W52).setCell ⟨g8, 0, none⟩ (.bool s4))).setCell ⟨g8, 1, none⟩ (.slice A4 l4.length c4))) ((((((W52).setCell ⟨g8, 0, none⟩ (.bool s4))).setCell ⟨g8, 1, none⟩ (.slice A4 l4.length c4))).setCell ⟨g8, 2, none⟩ (.slice D4 m4.length e4)) := Kw.store (c := (.slice D' m' d')) x8 rfl trivial _
       replace M3 := M3.kw KW
       replace M4 := M4.kw KW
       replace b0 := b0.far (p := ⟨g8, 2, none⟩) (by dsimp only; omega) (.slice D4 m4.length e4)
       replace r0 := r0.far (p := ⟨g8, 2, none⟩) (by dsimp only; omega) (.slice D4 m4.length e4)
       replace x8 : Bx 24 ((((((W52).setCell ⟨g8, 0, none⟩ (.bool s4))).setCell ⟨g8, 1, none⟩ (.slice A4 l4.length c4))).setCell ⟨g8, 2, none⟩ (.slice D4 m4.length e4)) (g8) [.bool s4, .slice A4 l4.length c4, .slice D4 m4.length e4] := x8.set 2 (.slice D4 m4.length e4)
       replace UP := UP.setCell (p := ⟨g8, 2, none⟩) (by dsimp only; omega) (.slice D4 m4.length e4)
       clear KW
       generalize ((((((W52).setCell ⟨g8, 0, none⟩ (.bool s4))).setCell ⟨g8, 1, none⟩ (.slice A4 l4.length c4))).setCell ⟨g8, 2, none⟩ (.slice D4 m4.length e4)) = W53 at *
       clear r0_0 r0_1 r0_2 x8_0 x8_1 x8_2 b0_9 b0_10 b0_11
       obtain ⟨r0_0, r0_1, r0_2⟩ := r0.c3
       replace r0_f0 := r0.free 0
       replace r0_f1 := r0.free 1
       replace r0_f2 := r0.free 2
       obtain ⟨x8_0, x8_1, x8_2⟩ := x8.c3
       exact end_rq rfl rfl rfl (by rw [← HE3.out]; exact M4) r0 trivial trivial trivial UP (by omega)
     · skip
       have k3 : ¬ (z4 > 0) := fun h9 => hh (HN4.out.1 h9)
       have HE3 : Hid (R = Dn) := Lib.hid (by rw [HE2.out, if_neg hh])
       clear hh
       go_wp2_with fail
       exact end_rq rfl rfl rfl (by rw [HE3.out]; exact XD) r0 trivial trivial trivial UP (by omega)
end Go.Proofs.YtmmcffceeahemaaGreat
