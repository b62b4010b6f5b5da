/-
  Layer 36, the document's answers: what is wrong with rules first.
-/
import Derived.Test.YtmmcffceeahemaaGreatZsRefPace1
import Derived.Test.YtmmcffceeahemaaGreatZsPace2
import Derived.Test.YtmmcffceeahemaaGreatZsRefFrac5
set_option linter.unusedVariables false
set_option linter.unusedSimpArgs false
namespace Go.Proofs.YtmmcffceeahemaaGreat
open Go.RowKit
theorem good_is {s : Bool} {l m : List Nat} (h : good (s, l, m) = true) : s = Wd.ngb (mkRat (Wd.iv s (Wd.val l)) (Wd.val m)).num ∧ l = Wd.words (mkRat (Wd.iv s (Wd.val l)) (Wd.val m)).num.natAbs ∧ m = Wd.words (mkRat (Wd.iv s (Wd.val l)) (Wd.val m)).den := by
 unfold good rawB Raw.val at h
 simp only [Bool.and_eq_true, beq_iff_eq, decide_eq_true_eq] at h
 exact h.1
theorem qw_raw {w : World} {s : Bool} {u d : Value} {l m : List Nat} {q : Rat} (h1 : s = Wd.ngb q.num) (h2 : l = Wd.words q.num.natAbs) (h3 : m = Wd.words q.den) (hl : Ws w u l) (hm : Ws w d m) : Qw w (.agg #[.bool s, u, d]) q := by
 rw [h2] at hl
 rw [h3] at hm
 rw [h1]
 exact ⟨_, _, rfl, hl, hm⟩
theorem ref9_int1w (w : World) : Calls Tryz.prog 65 #[.int .i64 1] w (RetQ 1 w) := ref9_int (n := 1) (by omega) w
set_option maxRecDepth 100000 in
set_option maxHeartbeats 12800000 in
theorem ref_wrong36 {s1 s2 s3 s4 s5 : Bool} {A1 A2 A3 A4 A5 D1 D2 D3 D4 D5 : Option Addr} {l1 l2 l3 l4 l5 m1 m2 m3 m4 m5 : List Nat} {c1 c2 c3 c4 c5 e1 e2 e3 e4 e5 : Nat} {fi mo : Int} {w : World} (hl1 : Ws w (.slice A1 l1.length c1) l1) (hm1 : Ws w (.slice D1 m1.length e1) m1) (hl2 : Ws w (.slice A2 l2.length c2) l2) (hm2 : Ws w (.slice D2 m2.length e2) m2) (hl3 : Ws w (.slice A3 l3.length c3) l3) (hm3 : Ws w (.slice D3 m3.length e3) m3) (hl4 : Ws w (.slice A4 l4.length c4) l4) (hm4 : Ws w (.slice D4 m4.length e4) m4) (hl5 : Ws w (.slice A5 l5.length c5) l5) (hm5 : Ws w (.slice D5 m5.length e5) m5) (hf1 : l1.length ≤ 1000 ∧ m1.length ≤ 1000) (hf2 : l2.length ≤ 1000 ∧ m2.length ≤ 1000) (hf3 : l3.length ≤ 1000 ∧ m3.length ≤ 1000) (hf4 : l4.length ≤ 1000 ∧ m4.length ≤ 1000) (hf5 : l5.length ≤ 1000 ∧ m5.length ≤ 1000) (hfi : -9223372036854775808 ≤ fi ∧ fi ≤ 9223372036854775807) (hmo : -9223372036854775808 ≤ mo ∧ mo ≤ 9223372036854775807) :
 Calls Tryz.prog 11 #[.agg #[.bool s1, .slice A1 l1.length c1, .slice D1 m1.length e1, .bool s2, .slice A2 l2.length c2, .slice D2 m2.length e2, .bool s3, .slice A3 l3.length c3, .slice D3 m3.length e3, .bool s4, .slice A4 l4.length c4, .slice D4 m4.length e4, .bool s5, .slice A5 l5.length c5, .slice D5 m5.length e5, .int .i64 fi, .int .i64 mo]] w (RetN (Pc.wrong (List.all [(s1, l1, m1), (s2, l2, m2), (s3, l3, m3), (s4, l4, m4), (s5, l5, m5)] good) (mkRat (Wd.iv s1 (Wd.val l1)) (Wd.val m1)) (mkRat (Wd.iv s2 (Wd.val l2)) (Wd.val m2)) (mkRat (Wd.iv s3 (Wd.val l3)) (Wd.val m3)) (mkRat (Wd.iv s4 (Wd.val l4)) (Wd.val m4)) (mkRat (Wd.iv s5 (Wd.val l5)) (Wd.val m5)) fi mo) w) := by
 have F1 := fr_raw (s := s1) hl1 hm1 hf1
 have F2 := fr_raw (s := s2) hl2 hm2 hf2
 have F3 := fr_raw (s := s3) hl3 hm3 hf3
 have F4 := fr_raw (s := s4) hl4 hm4 hf4
 have F5 := fr_raw (s := s5) hl5 hm5 hf5
 have HG1 : Hid (good (s1, l1, m1) = true → s1 = Wd.ngb (mkRat (Wd.iv s1 (Wd.val l1)) (Wd.val m1)).num ∧ l1 = Wd.words (mkRat (Wd.iv s1 (Wd.val l1)) (Wd.val m1)).num.natAbs ∧ m1 = Wd.words (mkRat (Wd.iv s1 (Wd.val l1)) (Wd.val m1)).den) := Lib.hid (fun h => good_is h)
 have LQ1 := F1.lq
 have HG2 : Hid (good (s2, l2, m2) = true → s2 = Wd.ngb (mkRat (Wd.iv s2 (Wd.val l2)) (Wd.val m2)).num ∧ l2 = Wd.words (mkRat (Wd.iv s2 (Wd.val l2)) (Wd.val m2)).num.natAbs ∧ m2 = Wd.words (mkRat (Wd.iv s2 (Wd.val l2)) (Wd.val m2)).den) := Lib.hid (fun h => good_is h)
 have LQ2 := F2.lq
 have HG3 : Hid (good (s3, l3, m3) = true → s3 = Wd.ngb (mkRat (Wd.iv s3 (Wd.val l3)) (Wd.val m3)).num ∧ l3 = Wd.words (mkRat (Wd.iv s3 (Wd.val l3)) (Wd.val m3)).num.natAbs ∧ m3 = Wd.words (mkRat (Wd.iv s3 (Wd.val l3)) (Wd.val m3)).den) := Lib.hid (fun h => good_is h)
 have LQ3 := F3.lq
 have HG4 : Hid (good (s4, l4, m4) = true → s4 = Wd.ngb (mkRat (Wd.iv s4 (Wd.val l4)) (Wd.val m4)).num ∧ l4 = Wd.words (mkRat (Wd.iv s4 (Wd.val l4)) (Wd.val m4)).num.natAbs ∧ m4 = Wd.words (mkRat (Wd.iv s4 (Wd.val l4)) (Wd.val m4)).den) := Lib.hid (fun h => good_is h)
 have LQ4 := F4.lq
 have HG5 : Hid (good (s5, l5, m5) = true → s5 = Wd.ngb (mkRat (Wd.iv s5 (Wd.val l5)) (Wd.val m5)).num ∧ l5 = Wd.words (mkRat (Wd.iv s5 (Wd.val l5)) (Wd.val m5)).num.natAbs ∧ m5 = Wd.words (mkRat (Wd.iv s5 (Wd.val l5)) (Wd.val m5)).den) := Lib.hid (fun h => good_is h)
 have LQ5 := F5.lq
 obtain ⟨t1, HT1⟩ : ∃ t, Hid (good (s1, l1, m1) = t) := ⟨_, Lib.hid rfl⟩
 obtain ⟨t2, HT2⟩ : ∃ t, Hid (good (s2, l2, m2) = t) := ⟨_, Lib.hid rfl⟩
 obtain ⟨t3, HT3⟩ : ∃ t, Hid (good (s3, l3, m3) = t) := ⟨_, Lib.hid rfl⟩
 obtain ⟨t4, HT4⟩ : ∃ t, Hid (good (s4, l4, m4) = t) := ⟨_, Lib.hid rfl⟩
 obtain ⟨t5, HT5⟩ : ∃ t, Hid (good (s5, l5, m5) = t) := ⟨_, Lib.hid rfl⟩
 have HALL : Hid (List.all ([(s1, l1, m1), (s2, l2, m2), (s3, l3, m3), (s4, l4, m4), (s5, l5, m5)] : List Raw) good = (t1 && (t2 && (t3 && (t4 && t5))))) := Lib.hid (by simp only [List.all_cons, List.all_nil, Bool.and_true, HT1.out, HT2.out, HT3.out, HT4.out, HT5.out])
 obtain ⟨g, HGG⟩ : ∃ g, Hid (List.all ([(s1, l1, m1), (s2, l2, m2), (s3, l3, m3), (s4, l4, m4), (s5, l5, m5)] : List Raw) good = g) := ⟨_, Lib.hid rfl⟩
 rw [HGG.out]
 have HGV : Hid ((t1 && (t2 && (t3 && (t4 && t5)))) = g) := Lib.hid (HALL.out.symm.trans HGG.out)
 clear HALL HGG
 rw [HT1.out] at HG1
 rw [HT2.out] at HG2
 rw [HT3.out] at HG3
 rw [HT4.out] at HG4
 rw [HT5.out] at HG5
 generalize (mkRat (Wd.iv s1 (Wd.val l1)) (Wd.val m1)) = q1 at *
 generalize (mkRat (Wd.iv s2 (Wd.val l2)) (Wd.val m2)) = q2 at *
 generalize (mkRat (Wd.iv s3 (Wd.val l3)) (Wd.val m3)) = q3 at *
 generalize (mkRat (Wd.iv s4 (Wd.val l4)) (Wd.val m4)) = q4 at *
 generalize (mkRat (Wd.iv s5 (Wd.val l5)) (Wd.val m5)) = q5 at *
 have UP : Up w (w.alloc (.cells #[.bool s1, .slice A1 l1.length c1, .slice D1 m1.length e1, .bool s2, .slice A2 l2.length c2, .slice D2 m2.length e2, .bool s3, .slice A3 l3.length c3, .slice D3 m3.length e3, .bool s4, .slice A4 l4.length c4, .slice D4 m4.length e4, .bool s5, .slice A5 l5.length c5, .slice D5 m5.length e5, .int .i64 fi, .int .i64 mo] 26)) := (Up.refl w).alloc _
 have b0 := Bx.new 26 w [.bool s1, .slice A1 l1.length c1, .slice D1 m1.length e1, .bool s2, .slice A2 l2.length c2, .slice D2 m2.length e2, .bool s3, .slice A3 l3.length c3, .slice D3 m3.length e3, .bool s4, .slice A4 l4.length c4, .slice D4 m4.length e4, .bool s5, .slice A5 l5.length c5, .slice D5 m5.length e5, .int .i64 fi, .int .i64 mo]
 go_enter Tryz.func11, Tryz.ntmps11
 go_wp2_with fail
 generalize (w.alloc (.cells #[.bool s1, .slice A1 l1.length c1, .slice D1 m1.length e1, .bool s2, .slice A2 l2.length c2, .slice D2 m2.length e2, .bool s3, .slice A3 l3.length c3, .slice D3 m3.length e3, .bool s4, .slice A4 l4.length c4, .slice D4 m4.length e4, .bool s5, .slice A5 l5.length c5, .slice D5 m5.length e5, .int .i64 fi, .int .i64 mo] 26)) = W at *
 replace hl1 := hl1.up UP
 replace hm1 := hm1.up UP
 replace hl2 := hl2.up UP
 replace hm2 := hm2.up UP
 replace hl3 := hl3.up UP
 replace hm3 := hm3.up UP
 replace hl4 := hl4.up UP
 replace hm4 := hm4.up UP
 replace hl5 := hl5.up UP
 replace hm5 := hm5.up UP
 have b0_0 := b0.cell (i := 0) rfl
 have b0_1 := b0.cell (i := 1) rfl
 have b0_2 := b0.cell (i := 2) rfl
 have b0_3 := b0.cell (i := 3) rfl
 have b0_4 := b0.cell (i := 4) rfl
 have b0_5 := b0.cell (i := 5) rfl
 have b0_6 := b0.cell (i := 6) rfl
 have b0_7 := b0.cell (i := 7) rfl
 have b0_8 := b0.cell (i := 8) rfl
 have b0_9 := b0.cell (i := 9) rfl
 have b0_10 := b0.cell (i := 10) rfl
 have b0_11 := b0.cell (i := 11) rfl
 have b0_12 := b0.cell (i := 12) rfl
 have b0_13 := b0.cell (i := 13) rfl
 have b0_14 := b0.cell (i := 14) rfl
 have b0_15 := b0.cell (i := 15) rfl
 have b0_16 := b0.cell (i := 16) rfl
 clear F1 F2 F3 F4 F5
 go_wp2_with fail
 ((with_reducible refine (ref9_int1w _).mono ?_))
 rintro e W1 ⟨V1, rfl, o, u1⟩
 replace hl1 := hl1.up u1
 replace hm1 := hm1.up u1
 replace hl2 := hl2.up u1
 replace hm2 := hm2.up u1
 replace hl3 := hl3.up u1
 replace hm3 := hm3.up u1
 replace hl4 := hl4.up u1
 replace hm4 := hm4.up u1
 replace hl5 := hl5.up u1
 replace hm5 := hm5.up u1
 replace b0 := b0.up u1
 replace UP := UP.trans u1
 clear b0_0 b0_1 b0_2 b0_3 b0_4 b0_5 b0_6 b0_7 b0_8 b0_9 b0_10 b0_11 b0_12 b0_13 b0_14 b0_15 b0_16
 have b0_0 := b0.cell (i := 0) rfl
 have b0_1 := b0.cell (i := 1) rfl
 have b0_2 := b0.cell (i := 2) rfl
 have b0_3 := b0.cell (i := 3) rfl
 have b0_4 := b0.cell (i := 4) rfl
 have b0_5 := b0.cell (i := 5) rfl
 have b0_6 := b0.cell (i := 6) rfl
 have b0_7 := b0.cell (i := 7) rfl
 have b0_8 := b0.cell (i := 8) rfl
 have b0_9 := b0.cell (i := 9) rfl
 have b0_10 := b0.cell (i := 10) rfl
 have b0_11 := b0.cell (i := 11) rfl
 have b0_12 := b0.cell (i := 12) rfl
 have b0_13 := b0.cell (i := 13) rfl
 have b0_14 := b0.cell (i := 14) rfl
 have b0_15 := b0.cell (i := 15) rfl
 have b0_16 := b0.cell (i := 16) rfl
 clear u1
 obtain ⟨P1, HP1⟩ : ∃ P, Hid ((1 : Rat) = P) := ⟨_, Lib.hid rfl⟩
 have LO : Wd.Lq P1 2 := by rw [← HP1.out]; exact lq_int (n := 1) (by omega)
 have HPE := HP1
 rw [HP1.out] at o
 obtain ⟨Xo, Yo, rfl, o, od⟩ := o
 obtain ⟨Ao, no, co, rfl⟩ := o.shape
 obtain ⟨Aod, nod, cod, rfl⟩ := od.shape
 have b0_0a := fun O0 => (cell_alloc (o := O0) b0_0)
 have b0_1a := fun O0 => (cell_alloc (o := O0) b0_1)
 have b0_2a := fun O0 => (cell_alloc (o := O0) b0_2)
 have b0_3a := fun O0 => (cell_alloc (o := O0) b0_3)
 have b0_4a := fun O0 => (cell_alloc (o := O0) b0_4)
 have b0_5a := fun O0 => (cell_alloc (o := O0) b0_5)
 have b0_6a := fun O0 => (cell_alloc (o := O0) b0_6)
 have b0_7a := fun O0 => (cell_alloc (o := O0) b0_7)
 have b0_8a := fun O0 => (cell_alloc (o := O0) b0_8)
 have b0_9a := fun O0 => (cell_alloc (o := O0) b0_9)
 have b0_10a := fun O0 => (cell_alloc (o := O0) b0_10)
 have b0_11a := fun O0 => (cell_alloc (o := O0) b0_11)
 have b0_12a := fun O0 => (cell_alloc (o := O0) b0_12)
 have b0_13a := fun O0 => (cell_alloc (o := O0) b0_13)
 have b0_14a := fun O0 => (cell_alloc (o := O0) b0_14)
 have b0_15a := fun O0 => (cell_alloc (o := O0) b0_15)
 have b0_16a := fun O0 => (cell_alloc (o := O0) b0_16)
 go_wp2_with fail
 clear b0_0a b0_1a b0_2a b0_3a b0_4a b0_5a b0_6a b0_7a b0_8a b0_9a b0_10a b0_11a b0_12a b0_13a b0_14a b0_15a b0_16a
 have x1 := Bx.new 24 W1 [.bool (Wd.ngb P1.num), .slice Ao no co, .slice Aod nod cod]
 have b0_lt_x1 := b0.lt
 have nu := ((Up.refl W1).alloc (.cells #[.bool (Wd.ngb P1.num), .slice Ao no co, .slice Aod nod cod] 24))
 replace hl1 := hl1.up nu
 replace hm1 := hm1.up nu
 replace hl2 := hl2.up nu
 replace hm2 := hm2.up nu
 replace hl3 := hl3.up nu
 replace hm3 := hm3.up nu
 replace hl4 := hl4.up nu
 replace hm4 := hm4.up nu
 replace hl5 := hl5.up nu
 replace hm5 := hm5.up nu
 replace o := o.up nu
 replace od := od.up nu
 replace b0 := b0.up nu
 replace UP := UP.trans nu
 clear nu
 generalize (W1.alloc (.cells #[.bool (Wd.ngb P1.num), .slice Ao no co, .slice Aod nod cod] 24)) = W2 at *
 clear b0_0 b0_1 b0_2 b0_3 b0_4 b0_5 b0_6 b0_7 b0_8 b0_9 b0_10 b0_11 b0_12 b0_13 b0_14 b0_15 b0_16
 have b0_0 := b0.cell (i := 0) rfl
 have b0_1 := b0.cell (i := 1) rfl
 have b0_2 := b0.cell (i := 2) rfl
 have b0_3 := b0.cell (i := 3) rfl
 have b0_4 := b0.cell (i := 4) rfl
 have b0_5 := b0.cell (i := 5) rfl
 have b0_6 := b0.cell (i := 6) rfl
 have b0_7 := b0.cell (i := 7) rfl
 have b0_8 := b0.cell (i := 8) rfl
 have b0_9 := b0.cell (i := 9) rfl
 have b0_10 := b0.cell (i := 10) rfl
 have b0_11 := b0.cell (i := 11) rfl
 have b0_12 := b0.cell (i := 12) rfl
 have b0_13 := b0.cell (i := 13) rfl
 have b0_14 := b0.cell (i := 14) rfl
 have b0_15 := b0.cell (i := 15) rfl
 have b0_16 := b0.cell (i := 16) rfl
 obtain ⟨x1_0, x1_1, x1_2⟩ := x1.c3
 ((with_reducible refine (ref_bad hl1 hm1 hf1).mono ?_))
 rintro e W3 ⟨rfl, u3⟩
 replace hl1 := hl1.up u3
 replace hm1 := hm1.up u3
 replace hl2 := hl2.up u3
 replace hm2 := hm2.up u3
 replace hl3 := hl3.up u3
 replace hm3 := hm3.up u3
 replace hl4 := hl4.up u3
 replace hm4 := hm4.up u3
 replace hl5 := hl5.up u3
 replace hm5 := hm5.up u3
 replace o := o.up u3
 replace od := od.up u3
 replace b0 := b0.up u3
 replace x1 := x1.up u3
 replace UP := UP.trans u3
 clear b0_0 b0_1 b0_2 b0_3 b0_4 b0_5 b0_6 b0_7 b0_8 b0_9 b0_10 b0_11 b0_12 b0_13 b0_14 b0_15 b0_16 x1_0 x1_1 x1_2
 have b0_0 := b0.cell (i := 0) rfl
 have b0_1 := b0.cell (i := 1) rfl
 have b0_2 := b0.cell (i := 2) rfl
 have b0_3 := b0.cell (i := 3) rfl
 have b0_4 := b0.cell (i := 4) rfl
 have b0_5 := b0.cell (i := 5) rfl
 have b0_6 := b0.cell (i := 6) rfl
 have b0_7 := b0.cell (i := 7) rfl
 have b0_8 := b0.cell (i := 8) rfl
 have b0_9 := b0.cell (i := 9) rfl
 have b0_10 := b0.cell (i := 10) rfl
 have b0_11 := b0.cell (i := 11) rfl
 have b0_12 := b0.cell (i := 12) rfl
 have b0_13 := b0.cell (i := 13) rfl
 have b0_14 := b0.cell (i := 14) rfl
 have b0_15 := b0.cell (i := 15) rfl
 have b0_16 := b0.cell (i := 16) rfl
 obtain ⟨x1_0, x1_1, x1_2⟩ := x1.c3
 clear u3
 rw [HT1.out]
 cases t1
 · skip
   go_wp2
   go_ret
   exact ⟨by rw [Pc.w1 (Bool.eq_false_iff.2 (fun hh => by have h := HGV.out; rw [hh] at h; simp at h))]; rfl, UP⟩
 go_wp2_with fail
 ((with_reducible refine (ref_bad hl2 hm2 hf2).mono ?_))
 rintro e W4 ⟨rfl, u4⟩
 replace hl1 := hl1.up u4
 replace hm1 := hm1.up u4
 replace hl2 := hl2.up u4
 replace hm2 := hm2.up u4
 replace hl3 := hl3.up u4
 replace hm3 := hm3.up u4
 replace hl4 := hl4.up u4
 replace hm4 := hm4.up u4
 replace hl5 := hl5.up u4
 replace hm5 := hm5.up u4
 replace o := o.up u4
 replace od := od.up u4
 replace b0 := b0.up u4
 replace x1 := x1.up u4
 replace UP := UP.trans u4
 clear b0_0 b0_1 b0_2 b0_3 b0_4 b0_5 b0_6 b0_7 b0_8 b0_9 b0_10 b0_11 b0_12 b0_13 b0_14 b0_15 b0_16 x1_0 x1_1 x1_2
 have b0_0 := b0.cell (i := 0) rfl
 have b0_1 := b0.cell (i := 1) rfl
 have b0_2 := b0.cell (i := 2) rfl
 have b0_3 := b0.cell (i := 3) rfl
 have b0_4 := b0.cell (i := 4) rfl
 have b0_5 := b0.cell (i := 5) rfl
 have b0_6 := b0.cell (i := 6) rfl
 have b0_7 := b0.cell (i := 7) rfl
 have b0_8 := b0.cell (i := 8) rfl
 have b0_9 := b0.cell (i := 9) rfl
 have b0_10 := b0.cell (i := 10) rfl
 have b0_11 := b0.cell (i := 11) rfl
 have b0_12 := b0.cell (i := 12) rfl
 have b0_13 := b0.cell (i := 13) rfl
 have b0_14 := b0.cell (i := 14) rfl
 have b0_15 := b0.cell (i := 15) rfl
 have b0_16 := b0.cell (i := 16) rfl
 obtain ⟨x1_0, x1_1, x1_2⟩ := x1.c3
 clear u4
 rw [HT2.out]
 cases t2
 · skip
   go_wp2
   go_ret
   exact ⟨by rw [Pc.w1 (Bool.eq_false_iff.2 (fun hh => by have h := HGV.out; rw [hh] at h; simp at h))]; rfl, UP⟩
 go_wp2_with fail
 ((with_reducible refine (ref_bad hl3 hm3 hf3).mono ?_))
 rintro e W5 ⟨rfl, u5⟩
 replace hl1 := hl1.up u5
 replace hm1 := hm1.up u5
 replace hl2 := hl2.up u5
 replace hm2 := hm2.up u5
 replace hl3 := hl3.up u5
 replace hm3 := hm3.up u5
 replace hl4 := hl4.up u5
 replace hm4 := hm4.up u5
 replace hl5 := hl5.up u5
 replace hm5 := hm5.up u5
 replace o := o.up u5
 replace od := od.up u5
 replace b0 := b0.up u5
 replace x1 := x1.up u5
 replace UP := UP.trans u5
 clear b0_0 b0_1 b0_2 b0_3 b0_4 b0_5 b0_6 b0_7 b0_8 b0_9 b0_10 b0_11 b0_12 b0_13 b0_14 b0_15 b0_16 x1_0 x1_1 x1_2
 have b0_0 := b0.cell (i := 0) rfl
 have b0_1 := b0.cell (i := 1) rfl
 have b0_2 := b0.cell (i := 2) rfl
 have b0_3 := b0.cell (i := 3) rfl
 have b0_4 := b0.cell (i := 4) rfl
 have b0_5 := b0.cell (i := 5) rfl
 have b0_6 := b0.cell (i := 6) rfl
 have b0_7 := b0.cell (i := 7) rfl
 have b0_8 := b0.cell (i := 8) rfl
 have b0_9 := b0.cell (i := 9) rfl
 have b0_10 := b0.cell (i := 10) rfl
 have b0_11 := b0.cell (i := 11) rfl
 have b0_12 := b0.cell (i := 12) rfl
 have b0_13 := b0.cell (i := 13) rfl
 have b0_14 := b0.cell (i := 14) rfl
 have b0_15 := b0.cell (i := 15) rfl
 have b0_16 := b0.cell (i := 16) rfl
 obtain ⟨x1_0, x1_1, x1_2⟩ := x1.c3
 clear u5
 rw [HT3.out]
 cases t3
 · skip
   go_wp2
   go_ret
   exact ⟨by rw [Pc.w1 (Bool.eq_false_iff.2 (fun hh => by have h := HGV.out; rw [hh] at h; simp at h))]; rfl, UP⟩
 go_wp2_with fail
 ((with_reducible refine (ref_bad hl4 hm4 hf4).mono ?_))
 rintro e W6 ⟨rfl, u6⟩
 replace hl1 := hl1.up u6
 replace hm1 := hm1.up u6
 replace hl2 := hl2.up u6
 replace hm2 := hm2.up u6
 replace hl3 := hl3.up u6
 replace hm3 := hm3.up u6
 replace hl4 := hl4.up u6
 replace hm4 := hm4.up u6
 replace hl5 := hl5.up u6
 replace hm5 := hm5.up u6
 replace o := o.up u6
 replace od := od.up u6
 replace b0 := b0.up u6
 replace x1 := x1.up u6
 replace UP := UP.trans u6
 clear b0_0 b0_1 b0_2 b0_3 b0_4 b0_5 b0_6 b0_7 b0_8 b0_9 b0_10 b0_11 b0_12 b0_13 b0_14 b0_15 b0_16 x1_0 x1_1 x1_2
 have b0_0 := b0.cell (i := 0) rfl
 have b0_1 := b0.cell (i := 1) rfl
 have b0_2 := b0.cell (i := 2) rfl
 have b0_3 := b0.cell (i := 3) rfl
 have b0_4 := b0.cell (i := 4) rfl
 have b0_5 := b0.cell (i := 5) rfl
 have b0_6 := b0.cell (i := 6) rfl
 have b0_7 := b0.cell (i := 7) rfl
 have b0_8 := b0.cell (i := 8) rfl
 have b0_9 := b0.cell (i := 9) rfl
 have b0_10 := b0.cell (i := 10) rfl
 have b0_11 := b0.cell (i := 11) rfl
 have b0_12 := b0.cell (i := 12) rfl
 have b0_13 := b0.cell (i := 13) rfl
 have b0_14 := b0.cell (i := 14) rfl
 have b0_15 := b0.cell (i := 15) rfl
 have b0_16 := b0.cell (i := 16) rfl
 obtain ⟨x1_0, x1_1, x1_2⟩ := x1.c3
 clear u6
 rw [HT4.out]
 cases t4
 · skip
   go_wp2
   go_ret
   exact ⟨by rw [Pc.w1 (Bool.eq_false_iff.2 (fun hh => by have h := HGV.out; rw [hh] at h; simp at h))]; rfl, UP⟩
 go_wp2_with fail
 ((with_reducible refine (ref_bad hl5 hm5 hf5).mono ?_))
 rintro e W7 ⟨rfl, u7⟩
 replace hl1 := hl1.up u7
 replace hm1 := hm1.up u7
 replace hl2 := hl2.up u7
 replace hm2 := hm2.up u7
 replace hl3 := hl3.up u7
 replace hm3 := hm3.up u7
 replace hl4 := hl4.up u7
 replace hm4 := hm4.up u7
 replace hl5 := hl5.up u7
 replace hm5 := hm5.up u7
 replace o := o.up u7
 replace od := od.up u7
 replace b0 := b0.up u7
 replace x1 := x1.up u7
 replace UP := UP.trans u7
 clear b0_0 b0_1 b0_2 b0_3 b0_4 b0_5 b0_6 b0_7 b0_8 b0_9 b0_10 b0_11 b0_12 b0_13 b0_14 b0_15 b0_16 x1_0 x1_1 x1_2
 have b0_0 := b0.cell (i := 0) rfl
 have b0_1 := b0.cell (i := 1) rfl
 have b0_2 := b0.cell (i := 2) rfl
 have b0_3 := b0.cell (i := 3) rfl
 have b0_4 := b0.cell (i := 4) rfl
 have b0_5 := b0.cell (i := 5) rfl
 have b0_6 := b0.cell (i := 6) rfl
 have b0_7 := b0.cell (i := 7) rfl
 have b0_8 := b0.cell (i := 8) rfl
 have b0_9 := b0.cell (i := 9) rfl
 have b0_10 := b0.cell (i := 10) rfl
 have b0_11 := b0.cell (i := 11) rfl
 have b0_12 := b0.cell (i := 12) rfl
 have b0_13 := b0.cell (i := 13) rfl
 have b0_14 := b0.cell (i := 14) rfl
 have b0_15 := b0.cell (i := 15) rfl
 have b0_16 := b0.cell (i := 16) rfl
 obtain ⟨x1_0, x1_1, x1_2⟩ := x1.c3
 clear u7
 rw [HT5.out]
 cases t5
 · skip
   go_wp2
   go_ret
   exact ⟨by rw [Pc.w1 (Bool.eq_false_iff.2 (fun hh => by have h := HGV.out; rw [hh] at h; simp at h))]; rfl, UP⟩
 obtain rfl : g = true := by
  cases hg : g
  · have h := HGV.out; rw [hg] at h; simp at h
  · rfl
 have HI1 := Lib.hid (HG1.out (by trivial))
 have M1 := qw_raw HI1.out.1 HI1.out.2.1 HI1.out.2.2 hl1 hm1
 have HI2 := Lib.hid (HG2.out (by trivial))
 have M2 := qw_raw HI2.out.1 HI2.out.2.1 HI2.out.2.2 hl2 hm2
 have HI3 := Lib.hid (HG3.out (by trivial))
 have M3 := qw_raw HI3.out.1 HI3.out.2.1 HI3.out.2.2 hl3 hm3
 have HI4 := Lib.hid (HG4.out (by trivial))
 have M4 := qw_raw HI4.out.1 HI4.out.2.1 HI4.out.2.2 hl4 hm4
 have HI5 := Lib.hid (HG5.out (by trivial))
 have M5 := qw_raw HI5.out.1 HI5.out.2.1 HI5.out.2.2 hl5 hm5
 clear hl1 hm1 hl2 hm2 hl3 hm3 hl4 hm4 hl5 hm5
 clear HG1 HG2 HG3 HG4 HG5 HI1 HI2 HI3 HI4 HI5 HGV HT1 HT2 HT3 HT4 HT5
 obtain ⟨z1, HZ1⟩ : ∃ z, Hid (Wd.sgn q1.num = z) := ⟨_, Lib.hid rfl⟩
 have HN1 := Lib.hid (decide_eq_decide.1 (Pc.neg_sgn q1))
 rw [HZ1.out] at HN1
 go_wp2_with fail
 ((with_reducible refine (ref9_sign M1).mono ?_))
 rintro e W8 ⟨rfl, u8⟩
 replace o := o.up u8
 replace od := od.up u8
 replace M1 := M1.up u8
 replace M2 := M2.up u8
 replace M3 := M3.up u8
 replace M4 := M4.up u8
 replace M5 := M5.up u8
 replace b0 := b0.up u8
 replace x1 := x1.up u8
 replace UP := UP.trans u8
 clear b0_0 b0_1 b0_2 b0_3 b0_4 b0_5 b0_6 b0_7 b0_8 b0_9 b0_10 b0_11 b0_12 b0_13 b0_14 b0_15 b0_16 x1_0 x1_1 x1_2
 have b0_0 := b0.cell (i := 0) rfl
 have b0_1 := b0.cell (i := 1) rfl
 have b0_2 := b0.cell (i := 2) rfl
 have b0_3 := b0.cell (i := 3) rfl
 have b0_4 := b0.cell (i := 4) rfl
 have b0_5 := b0.cell (i := 5) rfl
 have b0_6 := b0.cell (i := 6) rfl
 have b0_7 := b0.cell (i := 7) rfl
 have b0_8 := b0.cell (i := 8) rfl
 have b0_9 := b0.cell (i := 9) rfl
 have b0_10 := b0.cell (i := 10) rfl
 have b0_11 := b0.cell (i := 11) rfl
 have b0_12 := b0.cell (i := 12) rfl
 have b0_13 := b0.cell (i := 13) rfl
 have b0_14 := b0.cell (i := 14) rfl
 have b0_15 := b0.cell (i := 15) rfl
 have b0_16 := b0.cell (i := 16) rfl
 obtain ⟨x1_0, x1_1, x1_2⟩ := x1.c3
 clear u8
 rw [HZ1.out]
 by_cases h1 : q1 < 0
 · have k1 := HN1.out.2 h1
   have H1 := Lib.hid h1
   clear h1
   go_wp2
   go_ret
   exact ⟨by rw [Pc.w2 rfl H1.out]; rfl, UP⟩
 have k1 : ¬ z1 < 0 := fun hh => h1 (HN1.out.1 hh)
 have H1 := Lib.hid h1
 clear h1
 obtain ⟨p2, HZp2⟩ : ∃ z, Hid (Wd.sgn q2.num = z) := ⟨_, Lib.hid rfl⟩
 have HNp2 := Lib.hid (decide_eq_decide.1 (Pc.pos_sgn q2))
 rw [HZp2.out] at HNp2
 go_wp2_with fail
 ((with_reducible refine (ref9_sign M2).mono ?_))
 rintro e W9 ⟨rfl, u9⟩
 replace o := o.up u9
 replace od := od.up u9
 replace M1 := M1.up u9
 replace M2 := M2.up u9
 replace M3 := M3.up u9
 replace M4 := M4.up u9
 replace M5 := M5.up u9
 replace b0 := b0.up u9
 replace x1 := x1.up u9
 replace UP := UP.trans u9
 clear b0_0 b0_1 b0_2 b0_3 b0_4 b0_5 b0_6 b0_7 b0_8 b0_9 b0_10 b0_11 b0_12 b0_13 b0_14 b0_15 b0_16 x1_0 x1_1 x1_2
 have b0_0 := b0.cell (i := 0) rfl
 have b0_1 := b0.cell (i := 1) rfl
 have b0_2 := b0.cell (i := 2) rfl
 have b0_3 := b0.cell (i := 3) rfl
 have b0_4 := b0.cell (i := 4) rfl
 have b0_5 := b0.cell (i := 5) rfl
 have b0_6 := b0.cell (i := 6) rfl
 have b0_7 := b0.cell (i := 7) rfl
 have b0_8 := b0.cell (i := 8) rfl
 have b0_9 := b0.cell (i := 9) rfl
 have b0_10 := b0.cell (i := 10) rfl
 have b0_11 := b0.cell (i := 11) rfl
 have b0_12 := b0.cell (i := 12) rfl
 have b0_13 := b0.cell (i := 13) rfl
 have b0_14 := b0.cell (i := 14) rfl
 have b0_15 := b0.cell (i := 15) rfl
 have b0_16 := b0.cell (i := 16) rfl
 obtain ⟨x1_0, x1_1, x1_2⟩ := x1.c3
 clear u9
 rw [HZp2.out]
 by_cases h2a : 0 < q2
 rotate_left
 · have kp2 : p2 ≤ 0 := by have := mt HNp2.out.1 h2a; omega
   have H2 : Hid (¬ (0 < q2) ∨ 1 < q2) := Lib.hid (.inl h2a)
   clear h2a
   go_wp2
   go_ret
   exact ⟨by rw [Pc.w3 rfl H1.out H2.out]; rfl, UP⟩
 have kp2 : ¬ (p2 ≤ 0) := by have := HNp2.out.2 h2a; omega
 have H2a := Lib.hid h2a
 clear h2a
 obtain ⟨z2, HZ2⟩ : ∃ z, Hid (Wd.cmpQ q2 P1 = z) := ⟨_, Lib.hid rfl⟩
 have HN2 := Lib.hid (Wd.cmpQ_pos q2 P1)
 rw [HZ2.out] at HN2
 go_wp2_with fail
 ((with_reducible refine (ref9_cmp M2 (qw_of2 o od) LQ2 LO (by omega) (by omega)).mono ?_))
 rintro e W10 ⟨rfl, u10⟩
 replace o := o.up u10
 replace od := od.up u10
 replace M1 := M1.up u10
 replace M2 := M2.up u10
 replace M3 := M3.up u10
 replace M4 := M4.up u10
 replace M5 := M5.up u10
 replace b0 := b0.up u10
 replace x1 := x1.up u10
 replace UP := UP.trans u10
 clear b0_0 b0_1 b0_2 b0_3 b0_4 b0_5 b0_6 b0_7 b0_8 b0_9 b0_10 b0_11 b0_12 b0_13 b0_14 b0_15 b0_16 x1_0 x1_1 x1_2
 have b0_0 := b0.cell (i := 0) rfl
 have b0_1 := b0.cell (i := 1) rfl
 have b0_2 := b0.cell (i := 2) rfl
 have b0_3 := b0.cell (i := 3) rfl
 have b0_4 := b0.cell (i := 4) rfl
 have b0_5 := b0.cell (i := 5) rfl
 have b0_6 := b0.cell (i := 6) rfl
 have b0_7 := b0.cell (i := 7) rfl
 have b0_8 := b0.cell (i := 8) rfl
 have b0_9 := b0.cell (i := 9) rfl
 have b0_10 := b0.cell (i := 10) rfl
 have b0_11 := b0.cell (i := 11) rfl
 have b0_12 := b0.cell (i := 12) rfl
 have b0_13 := b0.cell (i := 13) rfl
 have b0_14 := b0.cell (i := 14) rfl
 have b0_15 := b0.cell (i := 15) rfl
 have b0_16 := b0.cell (i := 16) rfl
 obtain ⟨x1_0, x1_1, x1_2⟩ := x1.c3
 clear u10
 rw [HZ2.out]
 by_cases h2 : 1 < q2
 · have k2 : z2 > 0 := HN2.out.2 (by rw [← HPE.out]; exact h2)
   have H2 : Hid (¬ (0 < q2) ∨ 1 < q2) := Lib.hid (.inr h2)
   clear h2
   go_wp2
   go_ret
   exact ⟨by rw [Pc.w3 rfl H1.out H2.out]; rfl, UP⟩
 have k2 : ¬ (z2 > 0) := fun hh => h2 (by have := HN2.out.1 hh; rwa [← HPE.out] at this)
 have H2 : Hid (¬ (¬ (0 < q2) ∨ 1 < q2)) := Lib.hid (fun hh => hh.elim (fun x => x H2a.out) h2)
 clear h2
 obtain ⟨p3, HZp3⟩ : ∃ z, Hid (Wd.sgn q3.num = z) := ⟨_, Lib.hid rfl⟩
 have HNp3 := Lib.hid (decide_eq_decide.1 (Pc.pos_sgn q3))
 rw [HZp3.out] at HNp3
 go_wp2_with fail
 ((with_reducible refine (ref9_sign M3).mono ?_))
 rintro e W11 ⟨rfl, u11⟩
 replace o := o.up u11
 replace od := od.up u11
 replace M1 := M1.up u11
 replace M2 := M2.up u11
 replace M3 := M3.up u11
 replace M4 := M4.up u11
 replace M5 := M5.up u11
 replace b0 := b0.up u11
 replace x1 := x1.up u11
 replace UP := UP.trans u11
 clear b0_0 b0_1 b0_2 b0_3 b0_4 b0_5 b0_6 b0_7 b0_8 b0_9 b0_10 b0_11 b0_12 b0_13 b0_14 b0_15 b0_16 x1_0 x1_1 x1_2
 have b0_0 := b0.cell (i := 0) rfl
 have b0_1 := b0.cell (i := 1) rfl
 have b0_2 := b0.cell (i := 2) rfl
 have b0_3 := b0.cell (i := 3) rfl
 have b0_4 := b0.cell (i := 4) rfl
 have b0_5 := b0.cell (i := 5) rfl
 have b0_6 := b0.cell (i := 6) rfl
 have b0_7 := b0.cell (i := 7) rfl
 have b0_8 := b0.cell (i := 8) rfl
 have b0_9 := b0.cell (i := 9) rfl
 have b0_10 := b0.cell (i := 10) rfl
 have b0_11 := b0.cell (i := 11) rfl
 have b0_12 := b0.cell (i := 12) rfl
 have b0_13 := b0.cell (i := 13) rfl
 have b0_14 := b0.cell (i := 14) rfl
 have b0_15 := b0.cell (i := 15) rfl
 have b0_16 := b0.cell (i := 16) rfl
 obtain ⟨x1_0, x1_1, x1_2⟩ := x1.c3
 clear u11
 rw [HZp3.out]
 by_cases h3a : 0 < q3
 rotate_left
 · have kp3 : p3 ≤ 0 := by have := mt HNp3.out.1 h3a; omega
   have H3 : Hid (¬ (0 < q3) ∨ 1 ≤ q3) := Lib.hid (.inl h3a)
   clear h3a
   go_wp2
   go_ret
   exact ⟨by rw [Pc.w4 rfl H1.out H2.out H3.out]; rfl, UP⟩
 have kp3 : ¬ (p3 ≤ 0) := by have := HNp3.out.2 h3a; omega
 have H3a := Lib.hid h3a
 clear h3a
 obtain ⟨z3, HZ3⟩ : ∃ z, Hid (Wd.cmpQ q3 P1 = z) := ⟨_, Lib.hid rfl⟩
 have HN3 := Lib.hid (Wd.cmpQ_nonneg q3 P1)
 rw [HZ3.out] at HN3
 go_wp2_with fail
 ((with_reducible refine (ref9_cmp M3 (qw_of2 o od) LQ3 LO (by omega) (by omega)).mono ?_))
 rintro e W12 ⟨rfl, u12⟩
 replace o := o.up u12
 replace od := od.up u12
 replace M1 := M1.up u12
 replace M2 := M2.up u12
 replace M3 := M3.up u12
 replace M4 := M4.up u12
 replace M5 := M5.up u12
 replace b0 := b0.up u12
 replace x1 := x1.up u12
 replace UP := UP.trans u12
 clear b0_0 b0_1 b0_2 b0_3 b0_4 b0_5 b0_6 b0_7 b0_8 b0_9 b0_10 b0_11 b0_12 b0_13 b0_14 b0_15 b0_16 x1_0 x1_1 x1_2
 have b0_0 := b0.cell (i := 0) rfl
 have b0_1 := b0.cell (i := 1) rfl
 have b0_2 := b0.cell (i := 2) rfl
 have b0_3 := b0.cell (i := 3) rfl
 have b0_4 := b0.cell (i := 4) rfl
 have b0_5 := b0.cell (i := 5) rfl
 have b0_6 := b0.cell (i := 6) rfl
 have b0_7 := b0.cell (i := 7) rfl
 have b0_8 := b0.cell (i := 8) rfl
 have b0_9 := b0.cell (i := 9) rfl
 have b0_10 := b0.cell (i := 10) rfl
 have b0_11 := b0.cell (i := 11) rfl
 have b0_12 := b0.cell (i := 12) rfl
 have b0_13 := b0.cell (i := 13) rfl
 have b0_14 := b0.cell (i := 14) rfl
 have b0_15 := b0.cell (i := 15) rfl
 have b0_16 := b0.cell (i := 16) rfl
 obtain ⟨x1_0, x1_1, x1_2⟩ := x1.c3
 clear u12
 rw [HZ3.out]
 by_cases h3 : 1 ≤ q3
 · have k3 : 0 ≤ z3 := HN3.out.2 (by rw [← HPE.out]; exact h3)
   have H3 : Hid (¬ (0 < q3) ∨ 1 ≤ q3) := Lib.hid (.inr h3)
   clear h3
   go_wp2
   go_ret
   exact ⟨by rw [Pc.w4 rfl H1.out H2.out H3.out]; rfl, UP⟩
 have k3 : ¬ (0 ≤ z3) := fun hh => h3 (by have := HN3.out.1 hh; rwa [← HPE.out] at this)
 have H3 : Hid (¬ (¬ (0 < q3) ∨ 1 ≤ q3)) := Lib.hid (fun hh => hh.elim (fun x => x H3a.out) h3)
 clear h3
 obtain ⟨z4, HZ4⟩ : ∃ z, Hid (Wd.cmpQ q4 P1 = z) := ⟨_, Lib.hid rfl⟩
 have HN4 := Lib.hid (Pc.lt_iff q4 P1)
 rw [HZ4.out] at HN4
 go_wp2_with fail
 ((with_reducible refine (ref9_cmp M4 (qw_of2 o od) LQ4 LO (by omega) (by omega)).mono ?_))
 rintro e W13 ⟨rfl, u13⟩
 replace o := o.up u13
 replace od := od.up u13
 replace M1 := M1.up u13
 replace M2 := M2.up u13
 replace M3 := M3.up u13
 replace M4 := M4.up u13
 replace M5 := M5.up u13
 replace b0 := b0.up u13
 replace x1 := x1.up u13
 replace UP := UP.trans u13
 clear b0_0 b0_1 b0_2 b0_3 b0_4 b0_5 b0_6 b0_7 b0_8 b0_9 b0_10 b0_11 b0_12 b0_13 b0_14 b0_15 b0_16 x1_0 x1_1 x1_2
 have b0_0 := b0.cell (i := 0) rfl
 have b0_1 := b0.cell (i := 1) rfl
 have b0_2 := b0.cell (i := 2) rfl
 have b0_3 := b0.cell (i := 3) rfl
 have b0_4 := b0.cell (i := 4) rfl
 have b0_5 := b0.cell (i := 5) rfl
 have b0_6 := b0.cell (i := 6) rfl
 have b0_7 := b0.cell (i := 7) rfl
 have b0_8 := b0.cell (i := 8) rfl
 have b0_9 := b0.cell (i := 9) rfl
 have b0_10 := b0.cell (i := 10) rfl
 have b0_11 := b0.cell (i := 11) rfl
 have b0_12 := b0.cell (i := 12) rfl
 have b0_13 := b0.cell (i := 13) rfl
 have b0_14 := b0.cell (i := 14) rfl
 have b0_15 := b0.cell (i := 15) rfl
 have b0_16 := b0.cell (i := 16) rfl
 obtain ⟨x1_0, x1_1, x1_2⟩ := x1.c3
 clear u13
 rw [HZ4.out]
 by_cases h4 : q4 < 1
 · have k4 : z4 < 0 := HN4.out.2 (by rw [← HPE.out]; exact h4)
   have H4 := Lib.hid h4
   clear h4
   go_wp2
   go_ret
   exact ⟨by rw [Pc.w5 rfl H1.out H2.out H3.out H4.out]; rfl, UP⟩
 have k4 : ¬ (z4 < 0) := fun hh => h4 (by have := HN4.out.1 hh; rwa [← HPE.out] at this)
 have H4 := Lib.hid h4
 clear h4
 obtain ⟨p5, HZp5⟩ : ∃ z, Hid (Wd.sgn q5.num = z) := ⟨_, Lib.hid rfl⟩
 have HNp5 := Lib.hid (decide_eq_decide.1 (Pc.pos_sgn q5))
 rw [HZp5.out] at HNp5
 go_wp2_with fail
 ((with_reducible refine (ref9_sign M5).mono ?_))
 rintro e W14 ⟨rfl, u14⟩
 replace o := o.up u14
 replace od := od.up u14
 replace M1 := M1.up u14
 replace M2 := M2.up u14
 replace M3 := M3.up u14
 replace M4 := M4.up u14
 replace M5 := M5.up u14
 replace b0 := b0.up u14
 replace x1 := x1.up u14
 replace UP := UP.trans u14
 clear b0_0 b0_1 b0_2 b0_3 b0_4 b0_5 b0_6 b0_7 b0_8 b0_9 b0_10 b0_11 b0_12 b0_13 b0_14 b0_15 b0_16 x1_0 x1_1 x1_2
 have b0_0 := b0.cell (i := 0) rfl
 have b0_1 := b0.cell (i := 1) rfl
 have b0_2 := b0.cell (i := 2) rfl
 have b0_3 := b0.cell (i := 3) rfl
 have b0_4 := b0.cell (i := 4) rfl
 have b0_5 := b0.cell (i := 5) rfl
 have b0_6 := b0.cell (i := 6) rfl
 have b0_7 := b0.cell (i := 7) rfl
 have b0_8 := b0.cell (i := 8) rfl
 have b0_9 := b0.cell (i := 9) rfl
 have b0_10 := b0.cell (i := 10) rfl
 have b0_11 := b0.cell (i := 11) rfl
 have b0_12 := b0.cell (i := 12) rfl
 have b0_13 := b0.cell (i := 13) rfl
 have b0_14 := b0.cell (i := 14) rfl
 have b0_15 := b0.cell (i := 15) rfl
 have b0_16 := b0.cell (i := 16) rfl
 obtain ⟨x1_0, x1_1, x1_2⟩ := x1.c3
 clear u14
 rw [HZp5.out]
 by_cases h5 : 0 < q5
 rotate_left
 · have kp5 : p5 ≤ 0 := by have := mt HNp5.out.1 h5; omega
   have H5 := Lib.hid h5
   clear h5
   go_wp2
   go_ret
   exact ⟨by rw [Pc.w6 rfl H1.out H2.out H3.out H4.out H5.out]; rfl, UP⟩
 have kp5 : ¬ (p5 ≤ 0) := by have := HNp5.out.2 h5; omega
 have HW := Lib.hid (Pc.w7 (g := true) (fi := fi) (mo := mo) rfl H1.out H2.out H3.out H4.out h5)
 clear h5 HN1 HN2 HN3 HN4 H1 H2 H3 H4 H2a H3a
 by_cases h6 : fi < 1
 · skip
   go_wp2
   go_ret
   exact ⟨by rw [HW.out, if_pos (Or.inl h6)]; rfl, UP⟩
 by_cases h7 : 1024 < fi
 · skip
   go_wp2
   go_ret
   exact ⟨by rw [HW.out, if_pos (Or.inr h7)]; rfl, UP⟩
 have HW2 : Hid ((if fi < 1 ∨ 1024 < fi then (7 : Int) else if mo < 1 ∨ 200 < mo then 8 else 0) = if mo < 1 ∨ 200 < mo then 8 else 0) := Lib.hid (if_neg (by omega))
 by_cases h8 : mo < 1
 · skip
   go_wp2
   go_ret
   exact ⟨by rw [HW.out, HW2.out, if_pos (Or.inl h8)]; rfl, UP⟩
 by_cases h9 : 200 < mo
 · skip
   go_wp2
   go_ret
   exact ⟨by rw [HW.out, HW2.out, if_pos (Or.inr h9)]; rfl, UP⟩
 have HW3 : Hid ((if mo < 1 ∨ 200 < mo then (8 : Int) else 0) = 0) := Lib.hid (if_neg (by omega))
 go_wp2
 go_ret
 exact ⟨by rw [HW.out, HW2.out, HW3.out]; rfl, UP⟩
end Go.Proofs.YtmmcffceeahemaaGreat
