/-
  Layer 36: what is wrong with rules first.
-/
import Derived.Test.YtmmcffceeahemaaGreatZsPace1
import Derived.Deep.Fields
set_option linter.unusedVariables false
set_option linter.unusedSimpArgs false
namespace Pc
theorem w1 {g : Bool} {q1 q2 q3 q4 q5 : Rat} {fi mo : Int} (hg : g = false) : wrong g q1 q2 q3 q4 q5 fi mo = 1 := if_pos hg
theorem w2 {g : Bool} {q1 q2 q3 q4 q5 : Rat} {fi mo : Int} (hg : g = true) (h1 : q1 < 0) : wrong g q1 q2 q3 q4 q5 fi mo = 2 := by unfold wrong; rw [if_neg (by simp [hg]), if_pos h1]
theorem w3 {g : Bool} {q1 q2 q3 q4 q5 : Rat} {fi mo : Int} (hg : g = true) (h1 : ¬ q1 < 0) (h2 : ¬ (0 < q2) ∨ 1 < q2) : wrong g q1 q2 q3 q4 q5 fi mo = 3 := by unfold wrong; rw [if_neg (by simp [hg]), if_neg h1, if_pos h2]
theorem w4 {g : Bool} {q1 q2 q3 q4 q5 : Rat} {fi mo : Int} (hg : g = true) (h1 : ¬ q1 < 0) (h2 : ¬ (¬ (0 < q2) ∨ 1 < q2)) (h3 : ¬ (0 < q3) ∨ 1 ≤ q3) : wrong g q1 q2 q3 q4 q5 fi mo = 4 := by unfold wrong; rw [if_neg (by simp [hg]), if_neg h1, if_neg h2, if_pos h3]
theorem w5 {g : Bool} {q1 q2 q3 q4 q5 : Rat} {fi mo : Int} (hg : g = true) (h1 : ¬ q1 < 0) (h2 : ¬ (¬ (0 < q2) ∨ 1 < q2)) (h3 : ¬ (¬ (0 < q3) ∨ 1 ≤ q3)) (h4 : q4 < 1) : wrong g q1 q2 q3 q4 q5 fi mo = 5 := by unfold wrong; rw [if_neg (by simp [hg]), if_neg h1, if_neg h2, if_neg h3, if_pos h4]
theorem w6 {g : Bool} {q1 q2 q3 q4 q5 : Rat} {fi mo : Int} (hg : g = true) (h1 : ¬ q1 < 0) (h2 : ¬ (¬ (0 < q2) ∨ 1 < q2)) (h3 : ¬ (¬ (0 < q3) ∨ 1 ≤ q3)) (h4 : ¬ q4 < 1) (h5 : ¬ 0 < q5) : wrong g q1 q2 q3 q4 q5 fi mo = 6 := by unfold wrong; rw [if_neg (by simp [hg]), if_neg h1, if_neg h2, if_neg h3, if_neg h4, if_pos h5]
theorem w7 {g : Bool} {q1 q2 q3 q4 q5 : Rat} {fi mo : Int} (hg : g = true) (h1 : ¬ q1 < 0) (h2 : ¬ (¬ (0 < q2) ∨ 1 < q2)) (h3 : ¬ (¬ (0 < q3) ∨ 1 ≤ q3)) (h4 : ¬ q4 < 1) (h5 : 0 < q5) : wrong g q1 q2 q3 q4 q5 fi mo = (if fi < 1 ∨ 1024 < fi then 7 else if mo < 1 ∨ 200 < mo then 8 else 0) := by unfold wrong; rw [if_neg (by simp [hg]), if_neg h1, if_neg h2, if_neg h3, if_neg h4, if_neg (by simpa using h5)]
end Pc
namespace Go.Proofs.YtmmcffceeahemaaGreat
open Go.RowKit
theorem sq_row {α : Type} {P : World → Value → α → Prop} (kp : Kp P) {T : TypeId} {w : World} {g : Nat} {xs : List F3} {qs : List α} (hb : Bx T w g (fcells xs)) (ha : Al (fun x q => P w x.agg q) xs qs) (hl : qs.length ≤ 1000000) : Sq P w (.slice (some ⟨g, 0, none⟩) qs.length qs.length) qs := by
 have hok : ∀ x ∈ xs, x.ok := fun x hx => by
  obtain ⟨j, hj⟩ := List.getElem?_of_mem hx
  have hjl : j < qs.length := by rw [← ha.1]; exact (List.getElem?_eq_some_iff.1 hj).1
  obtain ⟨z, e, hz⟩ := kp.form (ha.2 j x _ hj (List.getElem?_eq_getElem hjl))
  rw [F3.agg_inj e]
  exact hz
 have : OwnQ P T 0 w (.slice (some ⟨g, 0, none⟩) xs.length xs.length) qs := ⟨xs, ha, hok, .inr ⟨g, [], rfl, Nat.zero_le _, by rw [List.append_nil]; exact hb, by simp, by rw [ha.1]; simp [maxLen]; omega⟩⟩
 rw [ha.1] at this
 exact this.sq
theorem al_cons {α : Type} {R : F3 → α → Prop} {x : F3} {q : α} {xs : List F3} {qs : List α} (h : R x q) (k : Al R xs qs) : Al R (x :: xs) (q :: qs) := (Al.one h).append k
theorem rw_five {s1 s2 s3 s4 s5 : Bool} {A1 A2 A3 A4 A5 D1 D2 D3 D4 D5 : Option Addr} {l1 l2 l3 l4 l5 m1 m2 m3 m4 m5 : List Nat} {c1 c2 c3 c4 c5 e1 e2 e3 e4 e5 : Nat} {w : World} {g : Nat} (hb : Bx 34 w g [.bool s1, .slice A1 l1.length c1, .slice D1 m1.length e1, .bool s2, .slice A2 l2.length c2, .slice D2 m2.length e2, .bool s3, .slice A3 l3.length c3, .slice D3 m3.length e3, .bool s4, .slice A4 l4.length c4, .slice D4 m4.length e4, .bool s5, .slice A5 l5.length c5, .slice D5 m5.length e5]) (hl1 : Ws w (.slice A1 l1.length c1) l1) (hm1 : Ws w (.slice D1 m1.length e1) m1) (hl2 : Ws w (.slice A2 l2.length c2) l2) (hm2 : Ws w (.slice D2 m2.length e2) m2) (hl3 : Ws w (.slice A3 l3.length c3) l3) (hm3 : Ws w (.slice D3 m3.length e3) m3) (hl4 : Ws w (.slice A4 l4.length c4) l4) (hm4 : Ws w (.slice D4 m4.length e4) m4) (hl5 : Ws w (.slice A5 l5.length c5) l5) (hm5 : Ws w (.slice D5 m5.length e5) m5) : Sq Rw w (.slice (some ⟨g, 0, none⟩) 5 5) [(s1, l1, m1), (s2, l2, m2), (s3, l3, m3), (s4, l4, m4), (s5, l5, m5)] :=
 sq_row kp_rw (T := 34) (xs := [⟨s1, .slice A1 l1.length c1, .slice D1 m1.length e1⟩, ⟨s2, .slice A2 l2.length c2, .slice D2 m2.length e2⟩, ⟨s3, .slice A3 l3.length c3, .slice D3 m3.length e3⟩, ⟨s4, .slice A4 l4.length c4, .slice D4 m4.length e4⟩, ⟨s5, .slice A5 l5.length c5, .slice D5 m5.length e5⟩]) hb
  (al_cons ⟨_, _, rfl, hl1, hm1⟩ (al_cons ⟨_, _, rfl, hl2, hm2⟩ (al_cons ⟨_, _, rfl, hl3, hm3⟩ (al_cons ⟨_, _, rfl, hl4, hm4⟩ (Al.one ⟨_, _, rfl, hl5, hm5⟩))))) (by simp)
theorem qw_of2 {w : World} {u d : Value} {q : Rat} (h : Ws w u (Wd.words q.num.natAbs)) (k : Ws w d (Wd.words q.den)) : Qw w (.agg #[.bool (Wd.ngb q.num), u, d]) q := ⟨_, _, rfl, h, k⟩
theorem fr_raw {w : World} {s : Bool} {A D : Option Addr} {l m : List Nat} {c d : Nat} (hl : Ws w (.slice A l.length c) l) (hm : Ws w (.slice D m.length d) m) (hf : l.length ≤ 1000 ∧ m.length ≤ 1000) : Fr w (.agg #[.bool s, .slice A l.length c, .slice D m.length d]) (mkRat (Wd.iv s (Wd.val l)) (Wd.val m)) 1000 := ⟨s, _, _, l, m, rfl, hl, hm, rfl, hf.1, hf.2, by omega⟩
set_option maxRecDepth 100000 in
set_option maxHeartbeats 12800000 in
theorem pace_wrong {s1 s2 s3 s4 s5 : Bool} {A1 A2 A3 A4 A5 D1 D2 D3 D4 D5 : Option Addr} {l1 l2 l3 l4 l5 m1 m2 m3 m4 m5 : List Nat} {c1 c2 c3 c4 c5 e1 e2 e3 e4 e5 : Nat} {fi mo : Int} {w : World} (hl1 : Ws w (.slice A1 l1.length c1) l1) (hm1 : Ws w (.slice D1 m1.length e1) m1) (hl2 : Ws w (.slice A2 l2.length c2) l2) (hm2 : Ws w (.slice D2 m2.length e2) m2) (hl3 : Ws w (.slice A3 l3.length c3) l3) (hm3 : Ws w (.slice D3 m3.length e3) m3) (hl4 : Ws w (.slice A4 l4.length c4) l4) (hm4 : Ws w (.slice D4 m4.length e4) m4) (hl5 : Ws w (.slice A5 l5.length c5) l5) (hm5 : Ws w (.slice D5 m5.length e5) m5) (hf1 : l1.length ≤ 1000 ∧ m1.length ≤ 1000) (hf2 : l2.length ≤ 1000 ∧ m2.length ≤ 1000) (hf3 : l3.length ≤ 1000 ∧ m3.length ≤ 1000) (hf4 : l4.length ≤ 1000 ∧ m4.length ≤ 1000) (hf5 : l5.length ≤ 1000 ∧ m5.length ≤ 1000) (hfi : -9223372036854775808 ≤ fi ∧ fi ≤ 9223372036854775807) (hmo : -9223372036854775808 ≤ mo ∧ mo ≤ 9223372036854775807) :
 Calls Tryz.prog 12 #[.agg #[.bool s1, .slice A1 l1.length c1, .slice D1 m1.length e1, .bool s2, .slice A2 l2.length c2, .slice D2 m2.length e2, .bool s3, .slice A3 l3.length c3, .slice D3 m3.length e3, .bool s4, .slice A4 l4.length c4, .slice D4 m4.length e4, .bool s5, .slice A5 l5.length c5, .slice D5 m5.length e5, .int .i64 fi, .int .i64 mo]] w (RetN (Pc.wrong (List.all [(s1, l1, m1), (s2, l2, m2), (s3, l3, m3), (s4, l4, m4), (s5, l5, m5)] good) (mkRat (Wd.iv s1 (Wd.val l1)) (Wd.val m1)) (mkRat (Wd.iv s2 (Wd.val l2)) (Wd.val m2)) (mkRat (Wd.iv s3 (Wd.val l3)) (Wd.val m3)) (mkRat (Wd.iv s4 (Wd.val l4)) (Wd.val m4)) (mkRat (Wd.iv s5 (Wd.val l5)) (Wd.val m5)) fi mo) w) := by
 have F1 := fr_raw (s := s1) hl1 hm1 hf1
 have F2 := fr_raw (s := s2) hl2 hm2 hf2
 have F3 := fr_raw (s := s3) hl3 hm3 hf3
 have F4 := fr_raw (s := s4) hl4 hm4 hf4
 have F5 := fr_raw (s := s5) hl5 hm5 hf5
 have HFW : Hid (∀ r ∈ ([(s1, l1, m1), (s2, l2, m2), (s3, l3, m3), (s4, l4, m4), (s5, l5, m5)] : List Raw), r.few 1000) := Lib.hid (by
  intro r hr
  simp only [List.mem_cons, List.not_mem_nil, or_false] at hr
  rcases hr with rfl | rfl | rfl | rfl | rfl
  · exact hf1
  · exact hf2
  · exact hf3
  · exact hf4
  · exact hf5)
 obtain ⟨g, HGG⟩ : ∃ g, Hid (List.all ([(s1, l1, m1), (s2, l2, m2), (s3, l3, m3), (s4, l4, m4), (s5, l5, m5)] : List Raw) good = g) := ⟨_, Lib.hid rfl⟩
 rw [HGG.out]
 generalize (mkRat (Wd.iv s1 (Wd.val l1)) (Wd.val m1)) = q1 at *
 generalize (mkRat (Wd.iv s2 (Wd.val l2)) (Wd.val m2)) = q2 at *
 generalize (mkRat (Wd.iv s3 (Wd.val l3)) (Wd.val m3)) = q3 at *
 generalize (mkRat (Wd.iv s4 (Wd.val l4)) (Wd.val m4)) = q4 at *
 generalize (mkRat (Wd.iv s5 (Wd.val l5)) (Wd.val m5)) = q5 at *
 clear hf1 hf2 hf3 hf4 hf5
 have UP : Up w (w.alloc (.cells #[.bool s1, .slice A1 l1.length c1, .slice D1 m1.length e1, .bool s2, .slice A2 l2.length c2, .slice D2 m2.length e2, .bool s3, .slice A3 l3.length c3, .slice D3 m3.length e3, .bool s4, .slice A4 l4.length c4, .slice D4 m4.length e4, .bool s5, .slice A5 l5.length c5, .slice D5 m5.length e5, .int .i64 fi, .int .i64 mo] 36)) := (Up.refl w).alloc _
 have b0 := Bx.new 36 w [.bool s1, .slice A1 l1.length c1, .slice D1 m1.length e1, .bool s2, .slice A2 l2.length c2, .slice D2 m2.length e2, .bool s3, .slice A3 l3.length c3, .slice D3 m3.length e3, .bool s4, .slice A4 l4.length c4, .slice D4 m4.length e4, .bool s5, .slice A5 l5.length c5, .slice D5 m5.length e5, .int .i64 fi, .int .i64 mo]
 go_enter Tryz.func12, Tryz.ntmps12
 go_wp2_with fail
 generalize (w.alloc (.cells #[.bool s1, .slice A1 l1.length c1, .slice D1 m1.length e1, .bool s2, .slice A2 l2.length c2, .slice D2 m2.length e2, .bool s3, .slice A3 l3.length c3, .slice D3 m3.length e3, .bool s4, .slice A4 l4.length c4, .slice D4 m4.length e4, .bool s5, .slice A5 l5.length c5, .slice D5 m5.length e5, .int .i64 fi, .int .i64 mo] 36)) = W at *
 replace hl1 := hl1.up UP
 replace hm1 := hm1.up UP
 replace hl2 := hl2.up UP
 replace hm2 := hm2.up UP
 replace hl3 := hl3.up UP
 replace hm3 := hm3.up UP
 replace hl4 := hl4.up UP
 replace hm4 := hm4.up UP
 replace hl5 := hl5.up UP
 replace hm5 := hm5.up UP
 replace F1 := F1.up UP
 replace F2 := F2.up UP
 replace F3 := F3.up UP
 replace F4 := F4.up UP
 replace F5 := F5.up UP
 have b0_0 := b0.cell (i := 0) rfl
 have b0_1 := b0.cell (i := 1) rfl
 have b0_2 := b0.cell (i := 2) rfl
 have b0_3 := b0.cell (i := 3) rfl
 have b0_4 := b0.cell (i := 4) rfl
 have b0_5 := b0.cell (i := 5) rfl
 have b0_6 := b0.cell (i := 6) rfl
 have b0_7 := b0.cell (i := 7) rfl
 have b0_8 := b0.cell (i := 8) rfl
 have b0_9 := b0.cell (i := 9) rfl
 have b0_10 := b0.cell (i := 10) rfl
 have b0_11 := b0.cell (i := 11) rfl
 have b0_12 := b0.cell (i := 12) rfl
 have b0_13 := b0.cell (i := 13) rfl
 have b0_14 := b0.cell (i := 14) rfl
 have b0_15 := b0.cell (i := 15) rfl
 have b0_16 := b0.cell (i := 16) rfl
 go_wp2_with fail
 ((with_reducible refine (frac_of (n := 1) (by omega) _).mono ?_))
 rintro e W1 ⟨V1, rfl, o, u1⟩
 replace hl1 := hl1.up u1
 replace hm1 := hm1.up u1
 replace hl2 := hl2.up u1
 replace hm2 := hm2.up u1
 replace hl3 := hl3.up u1
 replace hm3 := hm3.up u1
 replace hl4 := hl4.up u1
 replace hm4 := hm4.up u1
 replace hl5 := hl5.up u1
 replace hm5 := hm5.up u1
 replace F1 := F1.up u1
 replace F2 := F2.up u1
 replace F3 := F3.up u1
 replace F4 := F4.up u1
 replace F5 := F5.up u1
 replace b0 := b0.up u1
 replace UP := UP.trans u1
 clear b0_0 b0_1 b0_2 b0_3 b0_4 b0_5 b0_6 b0_7 b0_8 b0_9 b0_10 b0_11 b0_12 b0_13 b0_14 b0_15 b0_16
 have b0_0 := b0.cell (i := 0) rfl
 have b0_1 := b0.cell (i := 1) rfl
 have b0_2 := b0.cell (i := 2) rfl
 have b0_3 := b0.cell (i := 3) rfl
 have b0_4 := b0.cell (i := 4) rfl
 have b0_5 := b0.cell (i := 5) rfl
 have b0_6 := b0.cell (i := 6) rfl
 have b0_7 := b0.cell (i := 7) rfl
 have b0_8 := b0.cell (i := 8) rfl
 have b0_9 := b0.cell (i := 9) rfl
 have b0_10 := b0.cell (i := 10) rfl
 have b0_11 := b0.cell (i := 11) rfl
 have b0_12 := b0.cell (i := 12) rfl
 have b0_13 := b0.cell (i := 13) rfl
 have b0_14 := b0.cell (i := 14) rfl
 have b0_15 := b0.cell (i := 15) rfl
 have b0_16 := b0.cell (i := 16) rfl
 clear u1
 obtain ⟨P1, HP1⟩ : ∃ P, Hid (((1 : Int) : Rat) = P) := ⟨_, Lib.hid rfl⟩
 have LO : Wd.Lq P1 2 := by rw [← HP1.out]; exact lq_int (by omega)
 have HPE : Hid ((1 : Rat) = P1) := Lib.hid (by rw [← HP1.out]; rfl)
 rw [HP1.out] at o
 obtain ⟨Xo, Yo, rfl, o, od⟩ := o
 obtain ⟨Ao, no, co, rfl⟩ := o.shape
 obtain ⟨Aod, nod, cod, rfl⟩ := od.shape
 have b0_0a := fun O0 => (cell_alloc (o := O0) b0_0)
 have b0_1a := fun O0 => (cell_alloc (o := O0) b0_1)
 have b0_2a := fun O0 => (cell_alloc (o := O0) b0_2)
 have b0_3a := fun O0 => (cell_alloc (o := O0) b0_3)
 have b0_4a := fun O0 => (cell_alloc (o := O0) b0_4)
 have b0_5a := fun O0 => (cell_alloc (o := O0) b0_5)
 have b0_6a := fun O0 => (cell_alloc (o := O0) b0_6)
 have b0_7a := fun O0 => (cell_alloc (o := O0) b0_7)
 have b0_8a := fun O0 => (cell_alloc (o := O0) b0_8)
 have b0_9a := fun O0 => (cell_alloc (o := O0) b0_9)
 have b0_10a := fun O0 => (cell_alloc (o := O0) b0_10)
 have b0_11a := fun O0 => (cell_alloc (o := O0) b0_11)
 have b0_12a := fun O0 => (cell_alloc (o := O0) b0_12)
 have b0_13a := fun O0 => (cell_alloc (o := O0) b0_13)
 have b0_14a := fun O0 => (cell_alloc (o := O0) b0_14)
 have b0_15a := fun O0 => (cell_alloc (o := O0) b0_15)
 have b0_16a := fun O0 => (cell_alloc (o := O0) b0_16)
 have b0_0b := fun O0 O1 => (cell_alloc (o := O1) (cell_alloc (o := O0) b0_0))
 have b0_1b := fun O0 O1 => (cell_alloc (o := O1) (cell_alloc (o := O0) b0_1))
 have b0_2b := fun O0 O1 => (cell_alloc (o := O1) (cell_alloc (o := O0) b0_2))
 have b0_3b := fun O0 O1 => (cell_alloc (o := O1) (cell_alloc (o := O0) b0_3))
 have b0_4b := fun O0 O1 => (cell_alloc (o := O1) (cell_alloc (o := O0) b0_4))
 have b0_5b := fun O0 O1 => (cell_alloc (o := O1) (cell_alloc (o := O0) b0_5))
 have b0_6b := fun O0 O1 => (cell_alloc (o := O1) (cell_alloc (o := O0) b0_6))
 have b0_7b := fun O0 O1 => (cell_alloc (o := O1) (cell_alloc (o := O0) b0_7))
 have b0_8b := fun O0 O1 => (cell_alloc (o := O1) (cell_alloc (o := O0) b0_8))
 have b0_9b := fun O0 O1 => (cell_alloc (o := O1) (cell_alloc (o := O0) b0_9))
 have b0_10b := fun O0 O1 => (cell_alloc (o := O1) (cell_alloc (o := O0) b0_10))
 have b0_11b := fun O0 O1 => (cell_alloc (o := O1) (cell_alloc (o := O0) b0_11))
 have b0_12b := fun O0 O1 => (cell_alloc (o := O1) (cell_alloc (o := O0) b0_12))
 have b0_13b := fun O0 O1 => (cell_alloc (o := O1) (cell_alloc (o := O0) b0_13))
 have b0_14b := fun O0 O1 => (cell_alloc (o := O1) (cell_alloc (o := O0) b0_14))
 have b0_15b := fun O0 O1 => (cell_alloc (o := O1) (cell_alloc (o := O0) b0_15))
 have b0_16b := fun O0 O1 => (cell_alloc (o := O1) (cell_alloc (o := O0) b0_16))
 go_wp2_with fail
 clear b0_0a b0_1a b0_2a b0_3a b0_4a b0_5a b0_6a b0_7a b0_8a b0_9a b0_10a b0_11a b0_12a b0_13a b0_14a b0_15a b0_16a b0_0b b0_1b b0_2b b0_3b b0_4b b0_5b b0_6b b0_7b b0_8b b0_9b b0_10b b0_11b b0_12b b0_13b b0_14b b0_15b b0_16b
 obtain ⟨x1, sl⟩ := bx_two 34 34 W1 [.bool (Wd.ngb P1.num), .slice Ao no co, .slice Aod nod cod] [.bool s1, .slice A1 l1.length c1, .slice D1 m1.length e1, .bool s2, .slice A2 l2.length c2, .slice D2 m2.length e2, .bool s3, .slice A3 l3.length c3, .slice D3 m3.length e3, .bool s4, .slice A4 l4.length c4, .slice D4 m4.length e4, .bool s5, .slice A5 l5.length c5, .slice D5 m5.length e5]
 have b0_lt_x1 := b0.lt
 have b0_lt_sl := b0.lt
 have nu := ((((Up.refl W1).alloc (.cells #[.bool (Wd.ngb P1.num), .slice Ao no co, .slice Aod nod cod] 34))).alloc (.cells #[.bool s1, .slice A1 l1.length c1, .slice D1 m1.length e1, .bool s2, .slice A2 l2.length c2, .slice D2 m2.length e2, .bool s3, .slice A3 l3.length c3, .slice D3 m3.length e3, .bool s4, .slice A4 l4.length c4, .slice D4 m4.length e4, .bool s5, .slice A5 l5.length c5, .slice D5 m5.length e5] 34))
 replace hl1 := hl1.up nu
 replace hm1 := hm1.up nu
 replace hl2 := hl2.up nu
 replace hm2 := hm2.up nu
 replace hl3 := hl3.up nu
 replace hm3 := hm3.up nu
 replace hl4 := hl4.up nu
 replace hm4 := hm4.up nu
 replace hl5 := hl5.up nu
 replace hm5 := hm5.up nu
 replace F1 := F1.up nu
 replace F2 := F2.up nu
 replace F3 := F3.up nu
 replace F4 := F4.up nu
 replace F5 := F5.up nu
 replace o := o.up nu
 replace od := od.up nu
 replace b0 := b0.up nu
 replace UP := UP.trans nu
 clear nu
 generalize ((W1.alloc (.cells #[.bool (Wd.ngb P1.num), .slice Ao no co, .slice Aod nod cod] 34)).alloc (.cells #[.bool s1, .slice A1 l1.length c1, .slice D1 m1.length e1, .bool s2, .slice A2 l2.length c2, .slice D2 m2.length e2, .bool s3, .slice A3 l3.length c3, .slice D3 m3.length e3, .bool s4, .slice A4 l4.length c4, .slice D4 m4.length e4, .bool s5, .slice A5 l5.length c5, .slice D5 m5.length e5] 34)) = W2 at *
 clear b0_0 b0_1 b0_2 b0_3 b0_4 b0_5 b0_6 b0_7 b0_8 b0_9 b0_10 b0_11 b0_12 b0_13 b0_14 b0_15 b0_16
 have b0_0 := b0.cell (i := 0) rfl
 have b0_1 := b0.cell (i := 1) rfl
 have b0_2 := b0.cell (i := 2) rfl
 have b0_3 := b0.cell (i := 3) rfl
 have b0_4 := b0.cell (i := 4) rfl
 have b0_5 := b0.cell (i := 5) rfl
 have b0_6 := b0.cell (i := 6) rfl
 have b0_7 := b0.cell (i := 7) rfl
 have b0_8 := b0.cell (i := 8) rfl
 have b0_9 := b0.cell (i := 9) rfl
 have b0_10 := b0.cell (i := 10) rfl
 have b0_11 := b0.cell (i := 11) rfl
 have b0_12 := b0.cell (i := 12) rfl
 have b0_13 := b0.cell (i := 13) rfl
 have b0_14 := b0.cell (i := 14) rfl
 have b0_15 := b0.cell (i := 15) rfl
 have b0_16 := b0.cell (i := 16) rfl
 obtain ⟨x1_0, x1_1, x1_2⟩ := x1.c3
 have sl_0 := sl.cell (i := 0) rfl
 have sl_1 := sl.cell (i := 1) rfl
 have sl_2 := sl.cell (i := 2) rfl
 have sl_3 := sl.cell (i := 3) rfl
 have sl_4 := sl.cell (i := 4) rfl
 have sl_5 := sl.cell (i := 5) rfl
 have sl_6 := sl.cell (i := 6) rfl
 have sl_7 := sl.cell (i := 7) rfl
 have sl_8 := sl.cell (i := 8) rfl
 have sl_9 := sl.cell (i := 9) rfl
 have sl_10 := sl.cell (i := 10) rfl
 have sl_11 := sl.cell (i := 11) rfl
 have sl_12 := sl.cell (i := 12) rfl
 have sl_13 := sl.cell (i := 13) rfl
 have sl_14 := sl.cell (i := 14) rfl
 ((with_reducible refine (pace_numbers (rw_five sl hl1 hm1 hl2 hm2 hl3 hm3 hl4 hm4 hl5 hm5) (by simp) HFW).mono ?_))
 rintro e W3 ⟨rfl, u3⟩
 replace hl1 := hl1.up u3
 replace hm1 := hm1.up u3
 replace hl2 := hl2.up u3
 replace hm2 := hm2.up u3
 replace hl3 := hl3.up u3
 replace hm3 := hm3.up u3
 replace hl4 := hl4.up u3
 replace hm4 := hm4.up u3
 replace hl5 := hl5.up u3
 replace hm5 := hm5.up u3
 replace F1 := F1.up u3
 replace F2 := F2.up u3
 replace F3 := F3.up u3
 replace F4 := F4.up u3
 replace F5 := F5.up u3
 replace o := o.up u3
 replace od := od.up u3
 replace b0 := b0.up u3
 replace x1 := x1.up u3
 replace sl := sl.up u3
 replace UP := UP.trans u3
 clear b0_0 b0_1 b0_2 b0_3 b0_4 b0_5 b0_6 b0_7 b0_8 b0_9 b0_10 b0_11 b0_12 b0_13 b0_14 b0_15 b0_16 x1_0 x1_1 x1_2 sl_0 sl_1 sl_2 sl_3 sl_4 sl_5 sl_6 sl_7 sl_8 sl_9 sl_10 sl_11 sl_12 sl_13 sl_14
 have b0_0 := b0.cell (i := 0) rfl
 have b0_1 := b0.cell (i := 1) rfl
 have b0_2 := b0.cell (i := 2) rfl
 have b0_3 := b0.cell (i := 3) rfl
 have b0_4 := b0.cell (i := 4) rfl
 have b0_5 := b0.cell (i := 5) rfl
 have b0_6 := b0.cell (i := 6) rfl
 have b0_7 := b0.cell (i := 7) rfl
 have b0_8 := b0.cell (i := 8) rfl
 have b0_9 := b0.cell (i := 9) rfl
 have b0_10 := b0.cell (i := 10) rfl
 have b0_11 := b0.cell (i := 11) rfl
 have b0_12 := b0.cell (i := 12) rfl
 have b0_13 := b0.cell (i := 13) rfl
 have b0_14 := b0.cell (i := 14) rfl
 have b0_15 := b0.cell (i := 15) rfl
 have b0_16 := b0.cell (i := 16) rfl
 obtain ⟨x1_0, x1_1, x1_2⟩ := x1.c3
 have sl_0 := sl.cell (i := 0) rfl
 have sl_1 := sl.cell (i := 1) rfl
 have sl_2 := sl.cell (i := 2) rfl
 have sl_3 := sl.cell (i := 3) rfl
 have sl_4 := sl.cell (i := 4) rfl
 have sl_5 := sl.cell (i := 5) rfl
 have sl_6 := sl.cell (i := 6) rfl
 have sl_7 := sl.cell (i := 7) rfl
 have sl_8 := sl.cell (i := 8) rfl
 have sl_9 := sl.cell (i := 9) rfl
 have sl_10 := sl.cell (i := 10) rfl
 have sl_11 := sl.cell (i := 11) rfl
 have sl_12 := sl.cell (i := 12) rfl
 have sl_13 := sl.cell (i := 13) rfl
 have sl_14 := sl.cell (i := 14) rfl
 clear u3
 rw [HGG.out]
 cases g
 · skip
   go_wp2
   go_ret
   exact ⟨by rw [Pc.w1 rfl]; rfl, UP⟩
 clear hl1 hm1 hl2 hm2 hl3 hm3 hl4 hm4 hl5 hm5
 obtain ⟨z1, HZ1⟩ : ∃ z, Hid (Wd.sgn q1.num = z) := ⟨_, Lib.hid rfl⟩
 have HN1 := Lib.hid (decide_eq_decide.1 (Pc.neg_sgn q1))
 rw [HZ1.out] at HN1
 go_wp2_with fail
 ((with_reducible refine (frac_sign F1 (by omega)).mono ?_))
 rintro e W4 ⟨rfl, u4⟩
 replace F1 := F1.up u4
 replace F2 := F2.up u4
 replace F3 := F3.up u4
 replace F4 := F4.up u4
 replace F5 := F5.up u4
 replace o := o.up u4
 replace od := od.up u4
 replace b0 := b0.up u4
 replace x1 := x1.up u4
 replace sl := sl.up u4
 replace UP := UP.trans u4
 clear b0_0 b0_1 b0_2 b0_3 b0_4 b0_5 b0_6 b0_7 b0_8 b0_9 b0_10 b0_11 b0_12 b0_13 b0_14 b0_15 b0_16 x1_0 x1_1 x1_2 sl_0 sl_1 sl_2 sl_3 sl_4 sl_5 sl_6 sl_7 sl_8 sl_9 sl_10 sl_11 sl_12 sl_13 sl_14
 have b0_0 := b0.cell (i := 0) rfl
 have b0_1 := b0.cell (i := 1) rfl
 have b0_2 := b0.cell (i := 2) rfl
 have b0_3 := b0.cell (i := 3) rfl
 have b0_4 := b0.cell (i := 4) rfl
 have b0_5 := b0.cell (i := 5) rfl
 have b0_6 := b0.cell (i := 6) rfl
 have b0_7 := b0.cell (i := 7) rfl
 have b0_8 := b0.cell (i := 8) rfl
 have b0_9 := b0.cell (i := 9) rfl
 have b0_10 := b0.cell (i := 10) rfl
 have b0_11 := b0.cell (i := 11) rfl
 have b0_12 := b0.cell (i := 12) rfl
 have b0_13 := b0.cell (i := 13) rfl
 have b0_14 := b0.cell (i := 14) rfl
 have b0_15 := b0.cell (i := 15) rfl
 have b0_16 := b0.cell (i := 16) rfl
 obtain ⟨x1_0, x1_1, x1_2⟩ := x1.c3
 have sl_0 := sl.cell (i := 0) rfl
 have sl_1 := sl.cell (i := 1) rfl
 have sl_2 := sl.cell (i := 2) rfl
 have sl_3 := sl.cell (i := 3) rfl
 have sl_4 := sl.cell (i := 4) rfl
 have sl_5 := sl.cell (i := 5) rfl
 have sl_6 := sl.cell (i := 6) rfl
 have sl_7 := sl.cell (i := 7) rfl
 have sl_8 := sl.cell (i := 8) rfl
 have sl_9 := sl.cell (i := 9) rfl
 have sl_10 := sl.cell (i := 10) rfl
 have sl_11 := sl.cell (i := 11) rfl
 have sl_12 := sl.cell (i := 12) rfl
 have sl_13 := sl.cell (i := 13) rfl
 have sl_14 := sl.cell (i := 14) rfl
 clear u4
 rw [HZ1.out]
 by_cases h1 : q1 < 0
 · have k1 := HN1.out.2 h1
   have H1 := Lib.hid h1
   clear h1
   go_wp2
   go_ret
   exact ⟨by rw [Pc.w2 rfl H1.out]; rfl, UP⟩
 have k1 : ¬ z1 < 0 := fun hh => h1 (HN1.out.1 hh)
 have H1 := Lib.hid h1
 clear h1
 go_wp2_with fail
 ((with_reducible refine (pace_above F2 (by omega)).mono ?_))
 rintro e W5 ⟨rfl, u5⟩
 replace F1 := F1.up u5
 replace F2 := F2.up u5
 replace F3 := F3.up u5
 replace F4 := F4.up u5
 replace F5 := F5.up u5
 replace o := o.up u5
 replace od := od.up u5
 replace b0 := b0.up u5
 replace x1 := x1.up u5
 replace sl := sl.up u5
 replace UP := UP.trans u5
 clear b0_0 b0_1 b0_2 b0_3 b0_4 b0_5 b0_6 b0_7 b0_8 b0_9 b0_10 b0_11 b0_12 b0_13 b0_14 b0_15 b0_16 x1_0 x1_1 x1_2 sl_0 sl_1 sl_2 sl_3 sl_4 sl_5 sl_6 sl_7 sl_8 sl_9 sl_10 sl_11 sl_12 sl_13 sl_14
 have b0_0 := b0.cell (i := 0) rfl
 have b0_1 := b0.cell (i := 1) rfl
 have b0_2 := b0.cell (i := 2) rfl
 have b0_3 := b0.cell (i := 3) rfl
 have b0_4 := b0.cell (i := 4) rfl
 have b0_5 := b0.cell (i := 5) rfl
 have b0_6 := b0.cell (i := 6) rfl
 have b0_7 := b0.cell (i := 7) rfl
 have b0_8 := b0.cell (i := 8) rfl
 have b0_9 := b0.cell (i := 9) rfl
 have b0_10 := b0.cell (i := 10) rfl
 have b0_11 := b0.cell (i := 11) rfl
 have b0_12 := b0.cell (i := 12) rfl
 have b0_13 := b0.cell (i := 13) rfl
 have b0_14 := b0.cell (i := 14) rfl
 have b0_15 := b0.cell (i := 15) rfl
 have b0_16 := b0.cell (i := 16) rfl
 obtain ⟨x1_0, x1_1, x1_2⟩ := x1.c3
 have sl_0 := sl.cell (i := 0) rfl
 have sl_1 := sl.cell (i := 1) rfl
 have sl_2 := sl.cell (i := 2) rfl
 have sl_3 := sl.cell (i := 3) rfl
 have sl_4 := sl.cell (i := 4) rfl
 have sl_5 := sl.cell (i := 5) rfl
 have sl_6 := sl.cell (i := 6) rfl
 have sl_7 := sl.cell (i := 7) rfl
 have sl_8 := sl.cell (i := 8) rfl
 have sl_9 := sl.cell (i := 9) rfl
 have sl_10 := sl.cell (i := 10) rfl
 have sl_11 := sl.cell (i := 11) rfl
 have sl_12 := sl.cell (i := 12) rfl
 have sl_13 := sl.cell (i := 13) rfl
 have sl_14 := sl.cell (i := 14) rfl
 clear u5
 by_cases h2a : 0 < q2
 rotate_left
 · rw [decide_eq_false h2a]
   have H2 : Hid (¬ (0 < q2) ∨ 1 < q2) := Lib.hid (.inl h2a)
   clear h2a
   go_wp2
   go_ret
   exact ⟨by rw [Pc.w3 rfl H1.out H2.out]; rfl, UP⟩
 rw [decide_eq_true h2a]
 have H2a := Lib.hid h2a
 clear h2a
 obtain ⟨z2, HZ2⟩ : ∃ z, Hid (Wd.cmpQ q2 P1 = z) := ⟨_, Lib.hid rfl⟩
 have HN2 := Lib.hid (Wd.cmpQ_pos q2 P1)
 rw [HZ2.out] at HN2
 go_wp2_with fail
 ((with_reducible refine (frac_cmp F2 ((qw_of2 o od).fr LO) (by omega) (by omega)).mono ?_))
 rintro e W6 ⟨rfl, u6⟩
 replace F1 := F1.up u6
 replace F2 := F2.up u6
 replace F3 := F3.up u6
 replace F4 := F4.up u6
 replace F5 := F5.up u6
 replace o := o.up u6
 replace od := od.up u6
 replace b0 := b0.up u6
 replace x1 := x1.up u6
 replace sl := sl.up u6
 replace UP := UP.trans u6
 clear b0_0 b0_1 b0_2 b0_3 b0_4 b0_5 b0_6 b0_7 b0_8 b0_9 b0_10 b0_11 b0_12 b0_13 b0_14 b0_15 b0_16 x1_0 x1_1 x1_2 sl_0 sl_1 sl_2 sl_3 sl_4 sl_5 sl_6 sl_7 sl_8 sl_9 sl_10 sl_11 sl_12 sl_13 sl_14
 have b0_0 := b0.cell (i := 0) rfl
 have b0_1 := b0.cell (i := 1) rfl
 have b0_2 := b0.cell (i := 2) rfl
 have b0_3 := b0.cell (i := 3) rfl
 have b0_4 := b0.cell (i := 4) rfl
 have b0_5 := b0.cell (i := 5) rfl
 have b0_6 := b0.cell (i := 6) rfl
 have b0_7 := b0.cell (i := 7) rfl
 have b0_8 := b0.cell (i := 8) rfl
 have b0_9 := b0.cell (i := 9) rfl
 have b0_10 := b0.cell (i := 10) rfl
 have b0_11 := b0.cell (i := 11) rfl
 have b0_12 := b0.cell (i := 12) rfl
 have b0_13 := b0.cell (i := 13) rfl
 have b0_14 := b0.cell (i := 14) rfl
 have b0_15 := b0.cell (i := 15) rfl
 have b0_16 := b0.cell (i := 16) rfl
 obtain ⟨x1_0, x1_1, x1_2⟩ := x1.c3
 have sl_0 := sl.cell (i := 0) rfl
 have sl_1 := sl.cell (i := 1) rfl
 have sl_2 := sl.cell (i := 2) rfl
 have sl_3 := sl.cell (i := 3) rfl
 have sl_4 := sl.cell (i := 4) rfl
 have sl_5 := sl.cell (i := 5) rfl
 have sl_6 := sl.cell (i := 6) rfl
 have sl_7 := sl.cell (i := 7) rfl
 have sl_8 := sl.cell (i := 8) rfl
 have sl_9 := sl.cell (i := 9) rfl
 have sl_10 := sl.cell (i := 10) rfl
 have sl_11 := sl.cell (i := 11) rfl
 have sl_12 := sl.cell (i := 12) rfl
 have sl_13 := sl.cell (i := 13) rfl
 have sl_14 := sl.cell (i := 14) rfl
 clear u6
 rw [HZ2.out]
 by_cases h2 : 1 < q2
 · have k2 : z2 > 0 := HN2.out.2 (by rw [← HPE.out]; exact h2)
   have H2 : Hid (¬ (0 < q2) ∨ 1 < q2) := Lib.hid (.inr h2)
   clear h2
   go_wp2
   go_ret
   exact ⟨by rw [Pc.w3 rfl H1.out H2.out]; rfl, UP⟩
 have k2 : ¬ (z2 > 0) := fun hh => h2 (by have := HN2.out.1 hh; rwa [← HPE.out] at this)
 have H2 : Hid (¬ (¬ (0 < q2) ∨ 1 < q2)) := Lib.hid (fun hh => hh.elim (fun x => x H2a.out) h2)
 clear h2
 go_wp2_with fail
 ((with_reducible refine (pace_above F3 (by omega)).mono ?_))
 rintro e W7 ⟨rfl, u7⟩
 replace F1 := F1.up u7
 replace F2 := F2.up u7
 replace F3 := F3.up u7
 replace F4 := F4.up u7
 replace F5 := F5.up u7
 replace o := o.up u7
 replace od := od.up u7
 replace b0 := b0.up u7
 replace x1 := x1.up u7
 replace sl := sl.up u7
 replace UP := UP.trans u7
 clear b0_0 b0_1 b0_2 b0_3 b0_4 b0_5 b0_6 b0_7 b0_8 b0_9 b0_10 b0_11 b0_12 b0_13 b0_14 b0_15 b0_16 x1_0 x1_1 x1_2 sl_0 sl_1 sl_2 sl_3 sl_4 sl_5 sl_6 sl_7 sl_8 sl_9 sl_10 sl_11 sl_12 sl_13 sl_14
 have b0_0 := b0.cell (i := 0) rfl
 have b0_1 := b0.cell (i := 1) rfl
 have b0_2 := b0.cell (i := 2) rfl
 have b0_3 := b0.cell (i := 3) rfl
 have b0_4 := b0.cell (i := 4) rfl
 have b0_5 := b0.cell (i := 5) rfl
 have b0_6 := b0.cell (i := 6) rfl
 have b0_7 := b0.cell (i := 7) rfl
 have b0_8 := b0.cell (i := 8) rfl
 have b0_9 := b0.cell (i := 9) rfl
 have b0_10 := b0.cell (i := 10) rfl
 have b0_11 := b0.cell (i := 11) rfl
 have b0_12 := b0.cell (i := 12) rfl
 have b0_13 := b0.cell (i := 13) rfl
 have b0_14 := b0.cell (i := 14) rfl
 have b0_15 := b0.cell (i := 15) rfl
 have b0_16 := b0.cell (i := 16) rfl
 obtain ⟨x1_0, x1_1, x1_2⟩ := x1.c3
 have sl_0 := sl.cell (i := 0) rfl
 have sl_1 := sl.cell (i := 1) rfl
 have sl_2 := sl.cell (i := 2) rfl
 have sl_3 := sl.cell (i := 3) rfl
 have sl_4 := sl.cell (i := 4) rfl
 have sl_5 := sl.cell (i := 5) rfl
 have sl_6 := sl.cell (i := 6) rfl
 have sl_7 := sl.cell (i := 7) rfl
 have sl_8 := sl.cell (i := 8) rfl
 have sl_9 := sl.cell (i := 9) rfl
 have sl_10 := sl.cell (i := 10) rfl
 have sl_11 := sl.cell (i := 11) rfl
 have sl_12 := sl.cell (i := 12) rfl
 have sl_13 := sl.cell (i := 13) rfl
 have sl_14 := sl.cell (i := 14) rfl
 clear u7
 by_cases h3a : 0 < q3
 rotate_left
 · rw [decide_eq_false h3a]
   have H3 : Hid (¬ (0 < q3) ∨ 1 ≤ q3) := Lib.hid (.inl h3a)
   clear h3a
   go_wp2
   go_ret
   exact ⟨by rw [Pc.w4 rfl H1.out H2.out H3.out]; rfl, UP⟩
 rw [decide_eq_true h3a]
 have H3a := Lib.hid h3a
 clear h3a
 obtain ⟨z3, HZ3⟩ : ∃ z, Hid (Wd.cmpQ q3 P1 = z) := ⟨_, Lib.hid rfl⟩
 have HN3 := Lib.hid (Wd.cmpQ_nonneg q3 P1)
 rw [HZ3.out] at HN3
 go_wp2_with fail
 ((with_reducible refine (frac_cmp F3 ((qw_of2 o od).fr LO) (by omega) (by omega)).mono ?_))
 rintro e W8 ⟨rfl, u8⟩
 replace F1 := F1.up u8
 replace F2 := F2.up u8
 replace F3 := F3.up u8
 replace F4 := F4.up u8
 replace F5 := F5.up u8
 replace o := o.up u8
 replace od := od.up u8
 replace b0 := b0.up u8
 replace x1 := x1.up u8
 replace sl := sl.up u8
 replace UP := UP.trans u8
 clear b0_0 b0_1 b0_2 b0_3 b0_4 b0_5 b0_6 b0_7 b0_8 b0_9 b0_10 b0_11 b0_12 b0_13 b0_14 b0_15 b0_16 x1_0 x1_1 x1_2 sl_0 sl_1 sl_2 sl_3 sl_4 sl_5 sl_6 sl_7 sl_8 sl_9 sl_10 sl_11 sl_12 sl_13 sl_14
 have b0_0 := b0.cell (i := 0) rfl
 have b0_1 := b0.cell (i := 1) rfl
 have b0_2 := b0.cell (i := 2) rfl
 have b0_3 := b0.cell (i := 3) rfl
 have b0_4 := b0.cell (i := 4) rfl
 have b0_5 := b0.cell (i := 5) rfl
 have b0_6 := b0.cell (i := 6) rfl
 have b0_7 := b0.cell (i := 7) rfl
 have b0_8 := b0.cell (i := 8) rfl
 have b0_9 := b0.cell (i := 9) rfl
 have b0_10 := b0.cell (i := 10) rfl
 have b0_11 := b0.cell (i := 11) rfl
 have b0_12 := b0.cell (i := 12) rfl
 have b0_13 := b0.cell (i := 13) rfl
 have b0_14 := b0.cell (i := 14) rfl
 have b0_15 := b0.cell (i := 15) rfl
 have b0_16 := b0.cell (i := 16) rfl
 obtain ⟨x1_0, x1_1, x1_2⟩ := x1.c3
 have sl_0 := sl.cell (i := 0) rfl
 have sl_1 := sl.cell (i := 1) rfl
 have sl_2 := sl.cell (i := 2) rfl
 have sl_3 := sl.cell (i := 3) rfl
 have sl_4 := sl.cell (i := 4) rfl
 have sl_5 := sl.cell (i := 5) rfl
 have sl_6 := sl.cell (i := 6) rfl
 have sl_7 := sl.cell (i := 7) rfl
 have sl_8 := sl.cell (i := 8) rfl
 have sl_9 := sl.cell (i := 9) rfl
 have sl_10 := sl.cell (i := 10) rfl
 have sl_11 := sl.cell (i := 11) rfl
 have sl_12 := sl.cell (i := 12) rfl
 have sl_13 := sl.cell (i := 13) rfl
 have sl_14 := sl.cell (i := 14) rfl
 clear u8
 rw [HZ3.out]
 by_cases h3 : 1 ≤ q3
 · have k3 : 0 ≤ z3 := HN3.out.2 (by rw [← HPE.out]; exact h3)
   have H3 : Hid (¬ (0 < q3) ∨ 1 ≤ q3) := Lib.hid (.inr h3)
   clear h3
   go_wp2
   go_ret
   exact ⟨by rw [Pc.w4 rfl H1.out H2.out H3.out]; rfl, UP⟩
 have k3 : ¬ (0 ≤ z3) := fun hh => h3 (by have := HN3.out.1 hh; rwa [← HPE.out] at this)
 have H3 : Hid (¬ (¬ (0 < q3) ∨ 1 ≤ q3)) := Lib.hid (fun hh => hh.elim (fun x => x H3a.out) h3)
 clear h3
 obtain ⟨z4, HZ4⟩ : ∃ z, Hid (Wd.cmpQ q4 P1 = z) := ⟨_, Lib.hid rfl⟩
 have HN4 := Lib.hid (Pc.lt_iff q4 P1)
 rw [HZ4.out] at HN4
 go_wp2_with fail
 ((with_reducible refine (frac_cmp F4 ((qw_of2 o od).fr LO) (by omega) (by omega)).mono ?_))
 rintro e W9 ⟨rfl, u9⟩
 replace F1 := F1.up u9
 replace F2 := F2.up u9
 replace F3 := F3.up u9
 replace F4 := F4.up u9
 replace F5 := F5.up u9
 replace o := o.up u9
 replace od := od.up u9
 replace b0 := b0.up u9
 replace x1 := x1.up u9
 replace sl := sl.up u9
 replace UP := UP.trans u9
 clear b0_0 b0_1 b0_2 b0_3 b0_4 b0_5 b0_6 b0_7 b0_8 b0_9 b0_10 b0_11 b0_12 b0_13 b0_14 b0_15 b0_16 x1_0 x1_1 x1_2 sl_0 sl_1 sl_2 sl_3 sl_4 sl_5 sl_6 sl_7 sl_8 sl_9 sl_10 sl_11 sl_12 sl_13 sl_14
 have b0_0 := b0.cell (i := 0) rfl
 have b0_1 := b0.cell (i := 1) rfl
 have b0_2 := b0.cell (i := 2) rfl
 have b0_3 := b0.cell (i := 3) rfl
 have b0_4 := b0.cell (i := 4) rfl
 have b0_5 := b0.cell (i := 5) rfl
 have b0_6 := b0.cell (i := 6) rfl
 have b0_7 := b0.cell (i := 7) rfl
 have b0_8 := b0.cell (i := 8) rfl
 have b0_9 := b0.cell (i := 9) rfl
 have b0_10 := b0.cell (i := 10) rfl
 have b0_11 := b0.cell (i := 11) rfl
 have b0_12 := b0.cell (i := 12) rfl
 have b0_13 := b0.cell (i := 13) rfl
 have b0_14 := b0.cell (i := 14) rfl
 have b0_15 := b0.cell (i := 15) rfl
 have b0_16 := b0.cell (i := 16) rfl
 obtain ⟨x1_0, x1_1, x1_2⟩ := x1.c3
 have sl_0 := sl.cell (i := 0) rfl
 have sl_1 := sl.cell (i := 1) rfl
 have sl_2 := sl.cell (i := 2) rfl
 have sl_3 := sl.cell (i := 3) rfl
 have sl_4 := sl.cell (i := 4) rfl
 have sl_5 := sl.cell (i := 5) rfl
 have sl_6 := sl.cell (i := 6) rfl
 have sl_7 := sl.cell (i := 7) rfl
 have sl_8 := sl.cell (i := 8) rfl
 have sl_9 := sl.cell (i := 9) rfl
 have sl_10 := sl.cell (i := 10) rfl
 have sl_11 := sl.cell (i := 11) rfl
 have sl_12 := sl.cell (i := 12) rfl
 have sl_13 := sl.cell (i := 13) rfl
 have sl_14 := sl.cell (i := 14) rfl
 clear u9
 rw [HZ4.out]
 by_cases h4 : q4 < 1
 · have k4 : z4 < 0 := HN4.out.2 (by rw [← HPE.out]; exact h4)
   have H4 := Lib.hid h4
   clear h4
   go_wp2
   go_ret
   exact ⟨by rw [Pc.w5 rfl H1.out H2.out H3.out H4.out]; rfl, UP⟩
 have k4 : ¬ (z4 < 0) := fun hh => h4 (by have := HN4.out.1 hh; rwa [← HPE.out] at this)
 have H4 := Lib.hid h4
 clear h4
 go_wp2_with fail
 ((with_reducible refine (pace_above F5 (by omega)).mono ?_))
 rintro e W10 ⟨rfl, u10⟩
 replace F1 := F1.up u10
 replace F2 := F2.up u10
 replace F3 := F3.up u10
 replace F4 := F4.up u10
 replace F5 := F5.up u10
 replace o := o.up u10
 replace od := od.up u10
 replace b0 := b0.up u10
 replace x1 := x1.up u10
 replace sl := sl.up u10
 replace UP := UP.trans u10
 clear b0_0 b0_1 b0_2 b0_3 b0_4 b0_5 b0_6 b0_7 b0_8 b0_9 b0_10 b0_11 b0_12 b0_13 b0_14 b0_15 b0_16 x1_0 x1_1 x1_2 sl_0 sl_1 sl_2 sl_3 sl_4 sl_5 sl_6 sl_7 sl_8 sl_9 sl_10 sl_11 sl_12 sl_13 sl_14
 have b0_0 := b0.cell (i := 0) rfl
 have b0_1 := b0.cell (i := 1) rfl
 have b0_2 := b0.cell (i := 2) rfl
 have b0_3 := b0.cell (i := 3) rfl
 have b0_4 := b0.cell (i := 4) rfl
 have b0_5 := b0.cell (i := 5) rfl
 have b0_6 := b0.cell (i := 6) rfl
 have b0_7 := b0.cell (i := 7) rfl
 have b0_8 := b0.cell (i := 8) rfl
 have b0_9 := b0.cell (i := 9) rfl
 have b0_10 := b0.cell (i := 10) rfl
 have b0_11 := b0.cell (i := 11) rfl
 have b0_12 := b0.cell (i := 12) rfl
 have b0_13 := b0.cell (i := 13) rfl
 have b0_14 := b0.cell (i := 14) rfl
 have b0_15 := b0.cell (i := 15) rfl
 have b0_16 := b0.cell (i := 16) rfl
 obtain ⟨x1_0, x1_1, x1_2⟩ := x1.c3
 have sl_0 := sl.cell (i := 0) rfl
 have sl_1 := sl.cell (i := 1) rfl
 have sl_2 := sl.cell (i := 2) rfl
 have sl_3 := sl.cell (i := 3) rfl
 have sl_4 := sl.cell (i := 4) rfl
 have sl_5 := sl.cell (i := 5) rfl
 have sl_6 := sl.cell (i := 6) rfl
 have sl_7 := sl.cell (i := 7) rfl
 have sl_8 := sl.cell (i := 8) rfl
 have sl_9 := sl.cell (i := 9) rfl
 have sl_10 := sl.cell (i := 10) rfl
 have sl_11 := sl.cell (i := 11) rfl
 have sl_12 := sl.cell (i := 12) rfl
 have sl_13 := sl.cell (i := 13) rfl
 have sl_14 := sl.cell (i := 14) rfl
 clear u10
 by_cases h5 : 0 < q5
 rotate_left
 · rw [decide_eq_false h5]
   have H5 := Lib.hid h5
   clear h5
   go_wp2
   go_ret
   exact ⟨by rw [Pc.w6 rfl H1.out H2.out H3.out H4.out H5.out]; rfl, UP⟩
 rw [decide_eq_true h5]
 have HW := Lib.hid (Pc.w7 (g := true) (fi := fi) (mo := mo) rfl H1.out H2.out H3.out H4.out h5)
 clear h5 HN1 HN2 HN3 HN4 H1 H2 H3 H4 H2a H3a
 by_cases h6 : fi < 1
 · skip
   go_wp2
   go_ret
   exact ⟨by rw [HW.out, if_pos (Or.inl h6)]; rfl, UP⟩
 by_cases h7 : 1024 < fi
 · skip
   go_wp2
   go_ret
   exact ⟨by rw [HW.out, if_pos (Or.inr h7)]; rfl, UP⟩
 have HW2 : Hid ((if fi < 1 ∨ 1024 < fi then (7 : Int) else if mo < 1 ∨ 200 < mo then 8 else 0) = if mo < 1 ∨ 200 < mo then 8 else 0) := Lib.hid (if_neg (by omega))
 by_cases h8 : mo < 1
 · skip
   go_wp2
   go_ret
   exact ⟨by rw [HW.out, HW2.out, if_pos (Or.inl h8)]; rfl, UP⟩
 by_cases h9 : 200 < mo
 · skip
   go_wp2
   go_ret
   exact ⟨by rw [HW.out, HW2.out, if_pos (Or.inr h9)]; rfl, UP⟩
 have HW3 : Hid ((if mo < 1 ∨ 200 < mo then (8 : Int) else 0) = 0) := Lib.hid (if_neg (by omega))
 go_wp2
 go_ret
 exact ⟨by rw [HW.out, HW2.out, HW3.out]; rfl, UP⟩
set_option maxRecDepth 100000 in
set_option maxHeartbeats 3200000 in
theorem pace_right {s1 s2 s3 s4 s5 : Bool} {A1 A2 A3 A4 A5 D1 D2 D3 D4 D5 : Option Addr} {l1 l2 l3 l4 l5 m1 m2 m3 m4 m5 : List Nat} {c1 c2 c3 c4 c5 e1 e2 e3 e4 e5 : Nat} {fi mo : Int} {w : World} (hl1 : Ws w (.slice A1 l1.length c1) l1) (hm1 : Ws w (.slice D1 m1.length e1) m1) (hl2 : Ws w (.slice A2 l2.length c2) l2) (hm2 : Ws w (.slice D2 m2.length e2) m2) (hl3 : Ws w (.slice A3 l3.length c3) l3) (hm3 : Ws w (.slice D3 m3.length e3) m3) (hl4 : Ws w (.slice A4 l4.length c4) l4) (hm4 : Ws w (.slice D4 m4.length e4) m4) (hl5 : Ws w (.slice A5 l5.length c5) l5) (hm5 : Ws w (.slice D5 m5.length e5) m5) (hf1 : l1.length ≤ 1000 ∧ m1.length ≤ 1000) (hf2 : l2.length ≤ 1000 ∧ m2.length ≤ 1000) (hf3 : l3.length ≤ 1000 ∧ m3.length ≤ 1000) (hf4 : l4.length ≤ 1000 ∧ m4.length ≤ 1000) (hf5 : l5.length ≤ 1000 ∧ m5.length ≤ 1000) (hfi : -9223372036854775808 ≤ fi ∧ fi ≤ 9223372036854775807) (hmo : -9223372036854775808 ≤ mo ∧ mo ≤ 9223372036854775807) :
 Calls Tryz.prog 14 #[.agg #[.bool s1, .slice A1 l1.length c1, .slice D1 m1.length e1, .bool s2, .slice A2 l2.length c2, .slice D2 m2.length e2, .bool s3, .slice A3 l3.length c3, .slice D3 m3.length e3, .bool s4, .slice A4 l4.length c4, .slice D4 m4.length e4, .bool s5, .slice A5 l5.length c5, .slice D5 m5.length e5, .int .i64 fi, .int .i64 mo]] w fun e w' => e = .returned (.bool (Pc.wrong (List.all [(s1, l1, m1), (s2, l2, m2), (s3, l3, m3), (s4, l4, m4), (s5, l5, m5)] good) (mkRat (Wd.iv s1 (Wd.val l1)) (Wd.val m1)) (mkRat (Wd.iv s2 (Wd.val l2)) (Wd.val m2)) (mkRat (Wd.iv s3 (Wd.val l3)) (Wd.val m3)) (mkRat (Wd.iv s4 (Wd.val l4)) (Wd.val m4)) (mkRat (Wd.iv s5 (Wd.val l5)) (Wd.val m5)) fi mo == 0)) ∧ Up w w' := by
 obtain ⟨z, HZ⟩ : ∃ z, Hid (Pc.wrong (List.all [(s1, l1, m1), (s2, l2, m2), (s3, l3, m3), (s4, l4, m4), (s5, l5, m5)] good) (mkRat (Wd.iv s1 (Wd.val l1)) (Wd.val m1)) (mkRat (Wd.iv s2 (Wd.val l2)) (Wd.val m2)) (mkRat (Wd.iv s3 (Wd.val l3)) (Wd.val m3)) (mkRat (Wd.iv s4 (Wd.val l4)) (Wd.val m4)) (mkRat (Wd.iv s5 (Wd.val l5)) (Wd.val m5)) fi mo = z) := ⟨_, Lib.hid rfl⟩
 rw [HZ.out]
 have UP : Up w (w.alloc (.cells #[.bool s1, .slice A1 l1.length c1, .slice D1 m1.length e1, .bool s2, .slice A2 l2.length c2, .slice D2 m2.length e2, .bool s3, .slice A3 l3.length c3, .slice D3 m3.length e3, .bool s4, .slice A4 l4.length c4, .slice D4 m4.length e4, .bool s5, .slice A5 l5.length c5, .slice D5 m5.length e5, .int .i64 fi, .int .i64 mo] 36)) := (Up.refl w).alloc _
 have b0 := Bx.new 36 w [.bool s1, .slice A1 l1.length c1, .slice D1 m1.length e1, .bool s2, .slice A2 l2.length c2, .slice D2 m2.length e2, .bool s3, .slice A3 l3.length c3, .slice D3 m3.length e3, .bool s4, .slice A4 l4.length c4, .slice D4 m4.length e4, .bool s5, .slice A5 l5.length c5, .slice D5 m5.length e5, .int .i64 fi, .int .i64 mo]
 go_enter Tryz.func14, Tryz.ntmps14
 go_wp2_with fail
 generalize (w.alloc (.cells #[.bool s1, .slice A1 l1.length c1, .slice D1 m1.length e1, .bool s2, .slice A2 l2.length c2, .slice D2 m2.length e2, .bool s3, .slice A3 l3.length c3, .slice D3 m3.length e3, .bool s4, .slice A4 l4.length c4, .slice D4 m4.length e4, .bool s5, .slice A5 l5.length c5, .slice D5 m5.length e5, .int .i64 fi, .int .i64 mo] 36)) = W at *
 replace hl1 := hl1.up UP
 replace hm1 := hm1.up UP
 replace hl2 := hl2.up UP
 replace hm2 := hm2.up UP
 replace hl3 := hl3.up UP
 replace hm3 := hm3.up UP
 replace hl4 := hl4.up UP
 replace hm4 := hm4.up UP
 replace hl5 := hl5.up UP
 replace hm5 := hm5.up UP
 have b0_0 := b0.cell (i := 0) rfl
 have b0_1 := b0.cell (i := 1) rfl
 have b0_2 := b0.cell (i := 2) rfl
 have b0_3 := b0.cell (i := 3) rfl
 have b0_4 := b0.cell (i := 4) rfl
 have b0_5 := b0.cell (i := 5) rfl
 have b0_6 := b0.cell (i := 6) rfl
 have b0_7 := b0.cell (i := 7) rfl
 have b0_8 := b0.cell (i := 8) rfl
 have b0_9 := b0.cell (i := 9) rfl
 have b0_10 := b0.cell (i := 10) rfl
 have b0_11 := b0.cell (i := 11) rfl
 have b0_12 := b0.cell (i := 12) rfl
 have b0_13 := b0.cell (i := 13) rfl
 have b0_14 := b0.cell (i := 14) rfl
 have b0_15 := b0.cell (i := 15) rfl
 have b0_16 := b0.cell (i := 16) rfl
 go_wp2_with fail
 ((with_reducible refine (pace_wrong hl1 hm1 hl2 hm2 hl3 hm3 hl4 hm4 hl5 hm5 hf1 hf2 hf3 hf4 hf5 hfi hmo).mono ?_))
 rintro e W1 ⟨rfl, u1⟩
 replace hl1 := hl1.up u1
 replace hm1 := hm1.up u1
 replace hl2 := hl2.up u1
 replace hm2 := hm2.up u1
 replace hl3 := hl3.up u1
 replace hm3 := hm3.up u1
 replace hl4 := hl4.up u1
 replace hm4 := hm4.up u1
 replace hl5 := hl5.up u1
 replace hm5 := hm5.up u1
 replace b0 := b0.up u1
 replace UP := UP.trans u1
 clear b0_0 b0_1 b0_2 b0_3 b0_4 b0_5 b0_6 b0_7 b0_8 b0_9 b0_10 b0_11 b0_12 b0_13 b0_14 b0_15 b0_16
 have b0_0 := b0.cell (i := 0) rfl
 have b0_1 := b0.cell (i := 1) rfl
 have b0_2 := b0.cell (i := 2) rfl
 have b0_3 := b0.cell (i := 3) rfl
 have b0_4 := b0.cell (i := 4) rfl
 have b0_5 := b0.cell (i := 5) rfl
 have b0_6 := b0.cell (i := 6) rfl
 have b0_7 := b0.cell (i := 7) rfl
 have b0_8 := b0.cell (i := 8) rfl
 have b0_9 := b0.cell (i := 9) rfl
 have b0_10 := b0.cell (i := 10) rfl
 have b0_11 := b0.cell (i := 11) rfl
 have b0_12 := b0.cell (i := 12) rfl
 have b0_13 := b0.cell (i := 13) rfl
 have b0_14 := b0.cell (i := 14) rfl
 have b0_15 := b0.cell (i := 15) rfl
 have b0_16 := b0.cell (i := 16) rfl
 clear u1
 rw [HZ.out]
 go_wp2
 go_ret
 exact ⟨rfl, UP⟩
end Go.Proofs.YtmmcffceeahemaaGreat
