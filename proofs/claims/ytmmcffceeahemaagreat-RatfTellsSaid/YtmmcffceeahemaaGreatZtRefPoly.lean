/-
  Layer 9: what the statements are made of: turned over, held against one another, the examples.
  Layer 11, the document's answers: rows of right fractions.
-/
import Derived.Test.YtmmcffceeahemaaGreatZtSeqLaw
import Derived.Test.YtmmcffceeahemaaGreatZtLowRefs
import Derived.Test.YtmmcffceeahemaaGreatZtShort
import Derived.Test.YtmmcffceeahemaaGreatZtPolyRaw
import Derived.Test.YtmmcffceeahemaaGreatZtRefFrac5
set_option linter.unusedVariables false
set_option linter.unusedSimpArgs false
namespace Go.Proofs.YtmmcffceeahemaaGreat
open Go.RowKit
theorem ref_same_u9 {v u : Value} {a b : List Nat} {w : World} (ha : Ws w v a) (hb : Ws w u b) (hla : a.length ≤ 100000000000) (hlb : b.length ≤ 100000000000) :
 Calls Tryz.prog 143 #[v, u] w fun e w' => e = .returned (.bool (decide (a = b))) ∧ Up w w' :=
 (ref_same ha hb hla hlb).mono fun e w' ⟨n, he, hw⟩ => ⟨he, by rw [hw]; exact (Up.refl w).drewN n⟩
set_option maxHeartbeats 1600000 in
theorem ref_same9 {s t : Bool} {u1 d1 u2 d2 : Value} {l l' m m' : List Nat} {w : World} (h1 : Ws w u1 l) (h2 : Ws w d1 m) (h3 : Ws w u2 l') (h4 : Ws w d2 m') (b1 : l.length ≤ 100000000) (b2 : m.length ≤ 100000000) (b3 : l'.length ≤ 100000000) (b4 : m'.length ≤ 100000000) :
 Calls Tryz.prog 97 #[.agg #[.bool s, u1, d1], .agg #[.bool t, u2, d2]] w fun e w' => e = .returned (.bool (rawB s t l l' m m')) ∧ Up w w' := by
 obtain ⟨A, n, c, rfl⟩ := h1.shape
 obtain ⟨D, n2, d, rfl⟩ := h2.shape
 obtain ⟨A', n3, c', rfl⟩ := h3.shape
 obtain ⟨D', n4, d', rfl⟩ := h4.shape
 by_cases e1 : (s == t) = true
 · by_cases e2 : l = l'
   · have HR : Hid (rawB s t l l' m m' = decide (m = m')) := Lib.hid (by unfold rawB; rw [e1, decide_eq_true e2]; rfl)
     have E2 : Hid (decide (l = l') = true) := Lib.hid (decide_eq_true e2)
     clear e2
     have UP : Up w ((w.alloc (.cells #[.bool s, .slice A n c, .slice D n2 d] 24)).alloc (.cells #[.bool t, .slice A' n3 c', .slice D' n4 d'] 24)) := ((Up.refl w).alloc _).alloc _
     obtain ⟨b0, b1⟩ := bx_two 24 24 w [.bool s, .slice A n c, .slice D n2 d] [.bool t, .slice A' n3 c', .slice D' n4 d']
     go_enter Tryz.func97, Tryz.ntmps97
     go_wp2_with fail
     generalize ((w.alloc (.cells #[.bool s, .slice A n c, .slice D n2 d] 24)).alloc (.cells #[.bool t, .slice A' n3 c', .slice D' n4 d'] 24)) = W at *
     revert h1 h2 h3 h4; refine lg4 UP ?_; intro h1 h2 h3 h4
     obtain ⟨b0_0, b0_1, b0_2⟩ := b0.c3
     obtain ⟨b1_0, b1_1, b1_2⟩ := b1.c3
     go_wp2_with fail
     ((with_reducible refine (ref_same_u9 h1 h3 (by omega) (by omega)).mono ?_))
     rintro e W1 ⟨rfl, u1⟩
     revert UP b0 b1 h1 h2 h3 h4 b0_0 b0_1 b0_2 b1_0 b1_1; refine lg12 u1 ?_; intro UP b0 b1 h1 h2 h3 h4 b0_0 b0_1 b0_2 b1_0 b1_1; revert b1_2; revert u1; refine lh1 ?_; intro b1_2
     rw [E2.out]
     go_wp2_with fail
     ((with_reducible refine (ref_same_u9 h2 h4 (by omega) (by omega)).mono ?_))
     rintro e W2 ⟨rfl, u2⟩
     revert UP b0 b1 h1 h2 h3 h4 b0_0 b0_1 b0_2 b1_0 b1_1; refine lg12 u2 ?_; intro UP b0 b1 h1 h2 h3 h4 b0_0 b0_1 b0_2 b1_0 b1_1; revert b1_2; revert u2; refine lh1 ?_; intro b1_2
     go_wp2
     go_ret
     exact ⟨by rw [HR.out]; rfl, UP⟩
   · have HR : Hid (rawB s t l l' m m' = false) := Lib.hid (by unfold rawB; rw [e1, decide_eq_false e2]; rfl)
     have E2 : Hid (decide (l = l') = false) := Lib.hid (decide_eq_false e2)
     clear e2
     have UP : Up w ((w.alloc (.cells #[.bool s, .slice A n c, .slice D n2 d] 24)).alloc (.cells #[.bool t, .slice A' n3 c', .slice D' n4 d'] 24)) := ((Up.refl w).alloc _).alloc _
     obtain ⟨b0, b1⟩ := bx_two 24 24 w [.bool s, .slice A n c, .slice D n2 d] [.bool t, .slice A' n3 c', .slice D' n4 d']
     go_enter Tryz.func97, Tryz.ntmps97
     go_wp2_with fail
     generalize ((w.alloc (.cells #[.bool s, .slice A n c, .slice D n2 d] 24)).alloc (.cells #[.bool t, .slice A' n3 c', .slice D' n4 d'] 24)) = W at *
     revert h1 h2 h3 h4; refine lg4 UP ?_; intro h1 h2 h3 h4
     obtain ⟨b0_0, b0_1, b0_2⟩ := b0.c3
     obtain ⟨b1_0, b1_1, b1_2⟩ := b1.c3
     go_wp2_with fail
     ((with_reducible refine (ref_same_u9 h1 h3 (by omega) (by omega)).mono ?_))
     rintro e W1 ⟨rfl, u1⟩
     revert UP b0 b1 h1 h2 h3 h4 b0_0 b0_1 b0_2 b1_0 b1_1; refine lg12 u1 ?_; intro UP b0 b1 h1 h2 h3 h4 b0_0 b0_1 b0_2 b1_0 b1_1; revert b1_2; revert u1; refine lh1 ?_; intro b1_2
     rw [E2.out]
     go_wp2
     go_ret
     exact ⟨by rw [HR.out]; rfl, UP⟩
 · have e1 : (s == t) = false := by simpa using e1
   have HR : Hid (rawB s t l l' m m' = false) := Lib.hid (by unfold rawB; rw [e1]; rfl)
   have UP : Up w ((w.alloc (.cells #[.bool s, .slice A n c, .slice D n2 d] 24)).alloc (.cells #[.bool t, .slice A' n3 c', .slice D' n4 d'] 24)) := ((Up.refl w).alloc _).alloc _
   obtain ⟨b0, b1⟩ := bx_two 24 24 w [.bool s, .slice A n c, .slice D n2 d] [.bool t, .slice A' n3 c', .slice D' n4 d']
   go_enter Tryz.func97, Tryz.ntmps97
   go_wp2_with fail
   generalize ((w.alloc (.cells #[.bool s, .slice A n c, .slice D n2 d] 24)).alloc (.cells #[.bool t, .slice A' n3 c', .slice D' n4 d'] 24)) = W at *
   revert h1 h2 h3 h4; refine lg4 UP ?_; intro h1 h2 h3 h4
   obtain ⟨b0_0, b0_1, b0_2⟩ := b0.c3
   obtain ⟨b1_0, b1_1, b1_2⟩ := b1.c3
   go_wp2
   go_ret
   exact ⟨by rw [HR.out]; rfl, UP⟩
theorem ref_same9_yes {v u : Value} {q : Rat} {k : Nat} {w : World} (h : Qw w v q) (h' : Qw w u q) (hk : Wd.Lq q k) (hk2 : k ≤ 100000000) : Calls Tryz.prog 97 #[v, u] w fun e w' => e = .returned (.bool true) ∧ Up w w' := by
 obtain ⟨u1, d1, rfl, h1, h2⟩ := h
 obtain ⟨u2, d2, rfl, h3, h4⟩ := h'
 have k1 : (Wd.words q.num.natAbs).length ≤ 100000000 := Nat.le_trans hk.1 hk2
 have k2 : (Wd.words q.den).length ≤ 100000000 := Nat.le_trans hk.2 hk2
 exact (ref_same9 h1 h2 h3 h4 k1 k2 k1 k2).mono fun e w' ⟨he, hu⟩ => ⟨by rw [he, rawB_self], hu⟩
/-- For two right ones: have they one value? -/
theorem rawB_q (q r : Rat) : rawB (Wd.ngb q.num) (Wd.ngb r.num) (Wd.words q.num.natAbs) (Wd.words r.num.natAbs) (Wd.words q.den) (Wd.words r.den) = decide (q = r) := by
 rw [Bool.eq_iff_iff]
 simp only [rawB, Bool.and_eq_true, beq_iff_eq, decide_eq_true_eq, Wd.words_inj]
 constructor
 · rintro ⟨h1, h2, h3⟩
   exact Rat.ext (by rw [← Wd.iv_ngb q.num, ← Wd.iv_ngb r.num, h1, h2]) h3
 · rintro rfl
   exact ⟨rfl, rfl, rfl⟩
theorem ref_same9_q {v u : Value} {q r : Rat} {j k : Nat} {w : World} (h : Qw w v q) (h' : Qw w u r) (hj : Wd.Lq q j) (hk : Wd.Lq r k) (hj2 : j ≤ 100000000) (hk2 : k ≤ 100000000) : Calls Tryz.prog 97 #[v, u] w fun e w' => e = .returned (.bool (decide (q = r))) ∧ Up w w' := by
 obtain ⟨u1, d1, rfl, h1, h2⟩ := h
 obtain ⟨u2, d2, rfl, h3, h4⟩ := h'
 exact (ref_same9 h1 h2 h3 h4 (Nat.le_trans hj.1 hj2) (Nat.le_trans hj.2 hj2) (Nat.le_trans hk.1 hk2) (Nat.le_trans hk.2 hk2)).mono fun e w' ⟨he, hu⟩ => ⟨by rw [he, rawB_q], hu⟩
set_option maxHeartbeats 1600000 in
theorem law_is9 {v u : Value} {q : Rat} {k : Nat} {w : World} (h : Qw w v q) (h' : Qw w u q) (hk : Wd.Lq q k) (hk2 : k ≤ 100000000) : Calls Tryz.prog 32 #[v, u] w fun e w' => e = .returned (.bool true) ∧ Up w w' := by
 have H := h
 have K := h'
 obtain ⟨u1, d1, rfl, h1, h2⟩ := h
 obtain ⟨u2, d2, rfl, h3, h4⟩ := h'
 obtain ⟨A, n, c, rfl⟩ := h1.shape
 obtain ⟨D, n2, d, rfl⟩ := h2.shape
 obtain ⟨A', n3, c', rfl⟩ := h3.shape
 obtain ⟨D', n4, d', rfl⟩ := h4.shape
 clear h1 h2 h3 h4
 generalize hb : Wd.ngb q.num = s at *
 have HB := Lib.hid hb
 clear hb
 have UP : Up w ((w.alloc (.cells #[.bool s, .slice A n c, .slice D n2 d] 34)).alloc (.cells #[.bool s, .slice A' n3 c', .slice D' n4 d'] 24)) := ((Up.refl w).alloc _).alloc _
 obtain ⟨b0, b1⟩ := bx_two 34 24 w [.bool s, .slice A n c, .slice D n2 d] [.bool s, .slice A' n3 c', .slice D' n4 d']
 go_enter Tryz.func32, Tryz.ntmps32
 go_wp2_with fail
 generalize ((w.alloc (.cells #[.bool s, .slice A n c, .slice D n2 d] 34)).alloc (.cells #[.bool s, .slice A' n3 c', .slice D' n4 d'] 24)) = W at *
 replace H := H.up UP
 replace K := K.up UP
 obtain ⟨b0_0, b0_1, b0_2⟩ := b0.c3
 obtain ⟨b1_0, b1_1, b1_2⟩ := b1.c3
 revert UP b0 b1 H K b0_0 b0_1 b0_2 b1_0 b1_1 b1_2
 refine lg11 (Up.refl W).drew ?_
 intro UP b0 b1 H K b0_0 b0_1 b0_2 b1_0 b1_1 b1_2
 go_region_held3 (fun w' => Up w w' ∧ w'.cell? ⟨w.heap.size, 0, none⟩ = some (.bool s) ∧ w'.cell? ⟨w.heap.size, 1, none⟩ = some (.slice A n c) ∧ w'.cell? ⟨w.heap.size, 2, none⟩ = some (.slice D n2 d) ∧ w'.cell? ⟨w.heap.size + 1, 0, none⟩ = some (.bool s) ∧ w'.cell? ⟨w.heap.size + 1, 1, none⟩ = some (.slice A' n3 c') ∧ w'.cell? ⟨w.heap.size + 1, 2, none⟩ = some (.slice D' n4 d'))
  (first | with_reducible exact ⟨UP, b0_0, b0_1, b0_2, b1_0, b1_1, b1_2⟩ | with_reducible exact ⟨(UP.alloc_drew _), (cAd b0_0), (cAd b0_1), (cAd b0_2), (cAd b1_0), (cAd b1_1), (cAd b1_2)⟩ | with_reducible exact ⟨(UP.alloc2_drew _ _), (cAe b0_0), (cAe b0_1), (cAe b0_2), (cAe b1_0), (cAe b1_1), (cAe b1_2)⟩ | go_keep)
  ((first
    | (go_at_call 98
       ((with_reducible refine (law_of9 _ _ _ _ _ _ _ _).mono ?_))
       rintro e W1 ⟨rfl, u1⟩
       revert UP b0 b1 H K b0_0 b0_1 b0_2 b1_0 b1_1 b1_2; revert u1; refine lh11 ?_; intro UP b0 b1 H K b0_0 b0_1 b0_2 b1_0 b1_1 b1_2)
    | (go_at_call 97
       ((with_reducible refine (ref_same9_yes H K hk hk2).mono ?_))
       rintro e W2 ⟨rfl, u2⟩
       revert UP b0 b1 H K b0_0 b0_1 b0_2 b1_0 b1_1 b1_2; revert u2; refine lh11 ?_; intro UP b0 b1 H K b0_0 b0_1 b0_2 b1_0 b1_1 b1_2)))
 all_goals
  go_wp2
  go_ret
  exact ⟨rfl, UP⟩
end Go.Proofs.YtmmcffceeahemaaGreat
namespace Go.Proofs.YtmmcffceeahemaaGreat
open Go.RowKit
theorem Qk.qw {k : Nat} {w : World} {v : Value} {q : Rat} (h : Qk k w v q) : Qw w v q := h.1
theorem Qk.lq {k : Nat} {w : World} {v : Value} {q : Rat} (h : Qk k w v q) : Wd.Lq q k := h.2
theorem Qk.up {k : Nat} {w w' : World} {v : Value} {q : Rat} (h : Qk k w v q) (hu : Up w w') : Qk k w' v q := ⟨h.1.up hu, h.2⟩
instance Qk.lup {k : Nat} {w w' : World} {v : Value} {q : Rat} : Lu (Up w w') (Qk k w v q) (Qk k w' v q) := luM fun u h => h.up u
/-- Right fractions of the document's, a row of the call's own. -/
def QRow (k : Nat) (w0 w : World) (v : Value) (qs : List Rat) : Prop := OwnQ (Qk k) 24 w0.heap.size w v qs
theorem QRow.up {k : Nat} {w0 w w' : World} {v : Value} {qs : List Rat} (h : QRow k w0 w v qs) (hu : Up w w') : QRow k w0 w' v qs := OwnQ.up (kp_qk k) h hu
instance QRow.lup {k : Nat} {w0 w w' : World} {v : Value} {qs : List Rat} : Lu (Up w w') (QRow k w0 w v qs) (QRow k w0 w' v qs) := luM fun u h => h.up u
theorem QRow.form {k : Nat} {w0 w : World} {v : Value} {qs : List Rat} (h : QRow k w0 w v qs) : ∃ A c, v = .slice A qs.length c := OwnQ.form h
theorem QRow.weaken {k : Nat} {w0 w1 w : World} {v : Value} {qs : List Rat} (h : QRow k w1 w v qs) (hu : Up w0 w1) : QRow k w0 w v qs := OwnQ.weaken h hu.size
/-- Right fractions, a row that can be read. -/
def QSq (k : Nat) (w : World) (v : Value) (qs : List Rat) : Prop := Sq (Qk k) w v qs
theorem QSq.sq {k : Nat} {w : World} {v : Value} {qs : List Rat} (h : QSq k w v qs) : Sq (Qk k) w v qs := h
theorem QSq.up {k : Nat} {w w' : World} {v : Value} {qs : List Rat} (h : QSq k w v qs) (hu : Up w w') : QSq k w' v qs := Sq.up (kp_qk k) h hu
instance QSq.lup {k : Nat} {w w' : World} {v : Value} {qs : List Rat} : Lu (Up w w') (QSq k w v qs) (QSq k w' v qs) := luM fun u h => h.up u
theorem QSq.form {k : Nat} {w : World} {v : Value} {qs : List Rat} (h : QSq k w v qs) : ∃ A c, v = .slice A qs.length c := Sq.form h
theorem QSq.mono {j k : Nat} {w : World} {v : Value} {qs : List Rat} (h : QSq j w v qs) (hk : j ≤ k) : QSq k w v qs := Sq.imp h fun hx => hx.mono hk
theorem QRow.q {k : Nat} {w0 w : World} {v : Value} {qs : List Rat} (h : QRow k w0 w v qs) : QSq k w v qs := OwnQ.sq h
theorem QSq.fr {k : Nat} {w : World} {v : Value} {qs : List Rat} (h : QSq k w v qs) : FSq k w v qs := Sq.imp h fun hx => hx.1.fr hx.2
theorem QSq.lq {k : Nat} {w : World} {v : Value} {qs : List Rat} (h : QSq k w v qs) : ∀ q ∈ qs, Wd.Lq q k := h.fr.lq
theorem OwnQ.imp2 {P : World → Value → Rat → Prop} {k : Nat} {T : TypeId} {base : Nat} {w : World} {v : Value} {qs : List Rat} (h : OwnQ P T base w v qs) (f : ∀ {v q}, q ∈ qs → P w v q → Qk k w v q) : OwnQ (Qk k) T base w v qs := by
 obtain ⟨xs, ha, hr⟩ := h
 exact ⟨xs, ⟨ha.1, fun j x q h1 h2 => f (List.mem_of_getElem? h2) (ha.2 j x q h1 h2)⟩, hr⟩
theorem QRow.re {j k : Nat} {w0 w : World} {v : Value} {qs : List Rat} (h : QRow j w0 w v qs) (hq : ∀ q ∈ qs, Wd.Lq q k) : QRow k w0 w v qs := OwnQ.imp2 h fun hm hx => ⟨hx.1, hq _ hm⟩
theorem PRow.qs {k : Nat} {w0 w : World} {v : Value} {qs : List Rat} (h : PRow k w0 w v qs) : QSq k w v qs := OwnQ.sq h
theorem ref_same9_qk {v u : Value} {q r : Rat} {k : Nat} {w : World} (h : Qk k w v q) (h' : Qk k w u r) (hk : k ≤ 20000000) : Calls Tryz.prog 97 #[v, u] w fun e w' => e = .returned (.bool (decide (q = r))) ∧ Up w w' := ref_same9_q h.1 h'.1 h.2 h'.2 (by omega) (by omega)
def RetQR (k : Nat) (qs : List Rat) (w : World) (e : Ending) (w' : World) : Prop := ∃ v, e = .returned v ∧ QRow k w w' v qs ∧ Up w w'
set_option maxRecDepth 100000 in
set_option maxHeartbeats 1600000 in
theorem law_of11 {α : Type} {P : World → Value → α → Prop} (kp : Kp P) {v : Value} {qs : List α} {w : World} (h : Sq P w v qs) (hl : qs.length ≤ 100000000) :
 Calls Tryz.prog 106 #[v] w (RetO3 P 24 qs w) := by
 obtain ⟨A, c, rfl⟩ := h.form
 have H := Lib.hid h
 have KP := Lib.hid kp
 clear h kp
 go_enter Tryz.func106, Tryz.ntmps106
 go_wp2
 go_loopw [3, 4] (fun s3 s4 wr => ∃ j : Nat, s4 = .int .i64 j ∧ j ≤ qs.length ∧ OwnQ P 24 w.heap.size wr s3 (qs.take j) ∧ Up w wr) (fun _ s4 _ => qs.length - (intOf s4).toNat)
 case atStart => exact ⟨0, rfl, Nat.zero_le _, OwnQ.nil _ _ _ _, Up.refl w⟩
 case round =>
  obtain ⟨j, rfl, hj, hrow, hup⟩ := hrel
  by_cases hlt : j < qs.length
  · obtain ⟨b, o, s, B, x, f, D, n', f', rfl, hb, g1, g2, g3, hp⟩ := (H.out.up KP.out hup).at_ KP.out hlt
    have HTK : Hid (qs.take (j + 1) = qs.take j ++ [qs[j]]) := Lib.hid (List.take_succ_eq_append_getElem hlt)
    have HLEN : Hid ((qs.take j).length = j) := Lib.hid (by rw [List.length_take]; omega)
    generalize qs[j] = q at *
    obtain ⟨C, cc, rfl⟩ := hrow.form
    rw [HLEN.out] at hrow ⊢
    have HROW := Lib.hid hrow
    have HP := Lib.hid hp
    clear hrow hp
    have k1 : (j : Int) < (qs.length : Int) := by omega
    have k0 : (0 : Int) ≤ (j : Int) := by omega
    have kk : ((j : Int)).toNat = j := by omega
    go_wp2_with fail
    ((with_reducible refine (law_of9 _ _ _ _ _ _ _ _).mono ?_))
    rintro e w2 ⟨rfl, u2⟩
    have up2 := hup.trans u2
    have hrow2 := HROW.out.up KP.out u2
    have hp2 := KP.out.kw HP.out u2.kw
    clear g1 g2 g3 HROW HP u2
    have HR := Lib.hid (hrow2.up KP.out ((Up.refl w2).alloc (.cells #[.bool s, .slice B x f, .slice D n' f'] 24)))
    have HQ := Lib.hid (KP.out.kw hp2 ((Up.refl w2).alloc (.cells #[.bool s, .slice B x f, .slice D n' f'] 24)).kw)
    have HU := Lib.hid (up2.alloc (.cells #[.bool s, .slice B x f, .slice D n' f'] 24))
    clear hrow2 hp2
    go_wp2_with (at_builtin; refine wl_append_q1 KP.out Tryz.underlying44 info_rfrac (w0 := w) rfl _ _ rfl rfl HR.out HU.out rfl (heap_alloc_new w2 _) HQ.out (by rw [HLEN.out]; omega) ?_; intro v' w3 h1 h2 h3 h4)
    rw [← HTK.out] at h1
    clear h2 h3 HR HQ HU up2
    go_wp2
    go_roundw
    case rel => exact ⟨j + 1, by go_num, by omega, h1, h4⟩
    case measure => simp [intOf]; omega
  · obtain rfl : j = qs.length := by omega
    rw [List.take_length] at hrow
    go_wp2
    go_ret
    exact ⟨_, rfl, hrow, hup⟩
set_option maxRecDepth 100000 in
set_option maxHeartbeats 3200000 in
theorem ref_same11 {v u : Value} {ps qs : List Rat} {k : Nat} {w : World} (h : Sq (Qk k) w v ps) (h' : Sq (Qk k) w u qs) (hl : ps.length ≤ 100000000) (hl' : qs.length ≤ 100000000) (hk : k ≤ 20000000) : Calls Tryz.prog 31 #[v, u] w fun e w' => e = .returned (.bool (decide (ps = qs))) ∧ Up w w' := by
 obtain ⟨A, c, rfl⟩ := h.form
 obtain ⟨B, d, rfl⟩ := h'.form
 have H := Lib.hid h
 have H' := Lib.hid h'
 clear h h'
 by_cases hn : ps.length = qs.length
 rotate_left
 · have kn : ((ps.length : Int) != (qs.length : Int)) = true := by simp; omega
   have HE : Hid (decide (ps = qs) = false) := Lib.hid (decide_eq_false (fun e => hn (by rw [e])))
   clear hn
   go_enter Tryz.func31, Tryz.ntmps31
   go_wp2
   go_ret
   exact ⟨by rw [HE.out]; rfl, Up.refl w⟩
 have kn : ((ps.length : Int) != (qs.length : Int)) = false := by simp; omega
 have HN := Lib.hid hn
 clear hn
 go_enter Tryz.func31, Tryz.ntmps31
 go_wp2
 go_loopw [5] (fun s13 wr => ∃ j : Nat, s13 = .int .i64 j ∧ j ≤ ps.length ∧ Hid (ps.take j = qs.take j) ∧ Up w wr) (fun s13 _ => ps.length - (intOf s13).toNat)
 case atStart => exact ⟨0, rfl, Nat.zero_le _, Lib.hid rfl, Up.refl w⟩
 case round =>
  obtain ⟨j, rfl, hj, HT, UW⟩ := hrel
  by_cases hlt : j < ps.length
  · have hlt' : j < qs.length := by rw [← HN.out]; exact hlt
    obtain ⟨b1, o1, s1, B1, x1, f1, D1, y1, z1, e1, hb1, g1, g2, g3, FX⟩ := (H.out.up (kp_qk k) UW).at_ (kp_qk k) hlt
    obtain ⟨b2, o2, s2, B2, x2, f2, D2, y2, z2, e2, hb2, g4, g5, g6, FY⟩ := (H'.out.up (kp_qk k) UW).at_ (kp_qk k) hlt'
    subst e1 e2
    have HS := Lib.hid fun (hh : ps[j] = qs[j]) => show ps.take (j + 1) = qs.take (j + 1) by rw [List.take_succ_eq_append_getElem hlt, List.take_succ_eq_append_getElem hlt', HT.out, hh]
    have HD := Lib.hid fun (hh : ps[j] ≠ qs[j]) => show ps ≠ qs by
     intro e
     subst e
     exact hh rfl
    generalize ps[j] = p at *
    generalize qs[j] = q at *
    have FX : Qk k wr (.agg #[.bool s1, .slice B1 x1 f1, .slice D1 y1 z1]) p := FX
    have FY : Qk k wr (.agg #[.bool s2, .slice B2 x2 f2, .slice D2 y2 z2]) q := FY
    have k1 : (j : Int) < (ps.length : Int) := by omega
    have k2 : (j : Int) < (qs.length : Int) := by omega
    have k0 : (0 : Int) ≤ (j : Int) := by omega
    have kk : ((j : Int)).toNat = j := by omega
    have UP := Up.refl wr
    have HOLD : Hid (∀ w', Up wr w' → w'.cell? ⟨b1, o1 + j * 3, none⟩ = some (.bool s1) ∧ w'.cell? ⟨b1, o1 + j * 3 + 1, none⟩ = some (.slice B1 x1 f1) ∧ w'.cell? ⟨b1, o1 + j * 3 + 2, none⟩ = some (.slice D1 y1 z1) ∧ w'.cell? ⟨b2, o2 + j * 3, none⟩ = some (.bool s2) ∧ w'.cell? ⟨b2, o2 + j * 3 + 1, none⟩ = some (.slice B2 x2 f2) ∧ w'.cell? ⟨b2, o2 + j * 3 + 2, none⟩ = some (.slice D2 y2 z2)) := Lib.hid (fun w' up => ⟨(up.cell (p := ⟨b1, o1 + j * 3, none⟩) hb1).trans g1, (up.cell (p := ⟨b1, o1 + j * 3 + 1, none⟩) hb1).trans g2, (up.cell (p := ⟨b1, o1 + j * 3 + 2, none⟩) hb1).trans g3, (up.cell (p := ⟨b2, o2 + j * 3, none⟩) hb2).trans g4, (up.cell (p := ⟨b2, o2 + j * 3 + 1, none⟩) hb2).trans g5, (up.cell (p := ⟨b2, o2 + j * 3 + 2, none⟩) hb2).trans g6⟩)
    clear g1 g2 g3 g4 g5 g6
    have UP : Up wr wr := Up.refl wr
    go_wp2_with fail
    revert FX FY UP; refine lg3 (Up.refl wr).drew ?_; intro FX FY UP
    go_region_held3 (fun w' => Up wr w' ∧ w'.cell? ⟨b1, o1 + j * 3, none⟩ = some (.bool s1) ∧ w'.cell? ⟨b1, o1 + j * 3 + 1, none⟩ = some (.slice B1 x1 f1) ∧ w'.cell? ⟨b1, o1 + j * 3 + 2, none⟩ = some (.slice D1 y1 z1) ∧ w'.cell? ⟨b2, o2 + j * 3, none⟩ = some (.bool s2) ∧ w'.cell? ⟨b2, o2 + j * 3 + 1, none⟩ = some (.slice B2 x2 f2) ∧ w'.cell? ⟨b2, o2 + j * 3 + 2, none⟩ = some (.slice D2 y2 z2))
     (first | exact ⟨UP, HOLD.out _ UP⟩ | exact ⟨(UP.alloc_drew _), HOLD.out _ (UP.alloc_drew _)⟩ | exact ⟨(UP.alloc2_drew _ _), HOLD.out _ (UP.alloc2_drew _ _)⟩ | go_keep)
     ((first
       | (go_at_call 97
          ((with_reducible refine (ref_same9_qk FX FY (by omega)).mono ?_))
          rintro e W1 ⟨rfl, u1⟩
          revert FX FY UP; revert u1; refine lh3 ?_; intro FX FY UP)))
    all_goals
     by_cases hpq : p = q
     · have HT2 := Lib.hid (HS.out hpq)
       rw [show decide (p = q) = true from decide_eq_true hpq]
       clear hpq
       go_wp2
       go_roundw
       case rel => exact ⟨j + 1, by go_num, by omega, HT2, UW.trans UP⟩
       case measure => simp [intOf]; omega
     · have HE : Hid (decide (ps = qs) = false) := Lib.hid (decide_eq_false (HD.out hpq))
       rw [show decide (p = q) = false from decide_eq_false hpq]
       clear hpq
       go_wp2
       go_ret
       exact ⟨by rw [HE.out]; rfl, UW.trans UP⟩
  · obtain rfl : j = ps.length := by omega
    have HE : Hid (decide (ps = qs) = true) := Lib.hid (decide_eq_true (by
     have := HT.out
     rw [List.take_length, HN.out, List.take_length] at this
     exact this))
    go_wp2
    go_ret
    exact ⟨by rw [HE.out]; rfl, UW⟩
theorem law_is11 {v u : Value} {ps qs : List Rat} {k : Nat} {w : World} (h : QSq k w v ps) (h' : QSq k w u qs) (hl : ps.length ≤ 1000000) (hl' : qs.length ≤ 1000000) (hk : k ≤ 20000000) : Calls Tryz.prog 27 #[v, u] w fun e w' => e = .returned (.bool (decide (ps = qs))) ∧ Up w w' := by
 obtain ⟨A, c, rfl⟩ := h.form
 obtain ⟨B, d, rfl⟩ := h'.form
 have UP := Up.refl w
 go_enter Tryz.func27, Tryz.ntmps27
 go_wp2_with fail
 ((with_reducible refine (law_of11 (kp_qk k) h.sq (by omega)).mono ?_))
 rintro e W1 ⟨V1, rfl, R1, u1⟩
 have h2 := h'.up u1
 have r1 : QSq k W1 V1 ps := OwnQ.sq R1
 go_wp2_with fail
 ((with_reducible refine (ref_same11 r1.sq h2.sq (by omega) (by omega) hk).mono ?_))
 rintro e W2 ⟨rfl, u2⟩
 go_wp2
 go_ret
 exact ⟨rfl, u1.trans u2⟩
set_option maxRecDepth 100000 in
set_option maxHeartbeats 3200000 in
theorem ref_norms11 {v : Value} {qs : List Rat} {ka : Nat} {w : World} (h : FSq ka w v qs) (hl : qs.length ≤ 1000000) (hka : ka ≤ 10000000) : Calls Tryz.prog 23 #[v] w (RetQR ka qs w) := by
 obtain ⟨A, cv, rfl⟩ := h.form
 have H := Lib.hid h
 clear h
 go_enter Tryz.func23, Tryz.ntmps23
 go_wp2
 go_loopw [3, 4] (fun s5 s10 wr => ∃ j : Nat, s10 = .int .i64 j ∧ j ≤ qs.length ∧ QRow ka w wr s5 (qs.take j) ∧ Up w wr) (fun _ s10 _ => qs.length - (intOf s10).toNat)
 case atStart => exact ⟨0, rfl, Nat.zero_le _, OwnQ.nil _ _ _ _, Up.refl w⟩
 case round =>
  obtain ⟨j, rfl, hj, MR, UW⟩ := hrel
  by_cases hlt : j < qs.length
  · obtain ⟨b, o, s, B, m, f, D, n', f', rfl, hb, g1, g2, g3, hp⟩ := (H.out.up UW).sq.at_ (kp_fr ka) hlt
    have HTK : Hid (qs.take (j + 1) = qs.take j ++ [qs[j]]) := Lib.hid (List.take_succ_eq_append_getElem hlt)
    have HTL : Hid ((qs.take j).length = j) := Lib.hid (by rw [List.length_take]; omega)
    generalize qs[j] = P at *
    have FX : Fr wr (.agg #[.bool s, .slice B m f, .slice D n' f']) P ka := hp
    have LP := FX.lq
    clear hp
    obtain ⟨C7, c7, rfl⟩ := MR.form
    rw [HTL.out] at MR ⊢
    have k1 : (j : Int) < (qs.length : Int) := by omega
    have k0 : (0 : Int) ≤ (j : Int) := by omega
    have kk : ((j : Int)).toNat = j := by omega
    go_wp2_with fail
    ((with_reducible refine (ref9_norm FX (by omega)).mono ?_))
    rintro e W2 ⟨V2, rfl, y, u2⟩
    clear g1 g2 g3 FX
    refine li2 u2 MR UW ?_; clear MR UW; intro MR UW
    obtain ⟨Xy, Yy, rfl, y, yd⟩ := y
    obtain ⟨Ay, ny, cy, rfl⟩ := y.shape
    obtain ⟨Ayd, nyd, cyd, rfl⟩ := yd.shape
    have HA : Hid (QRow (ka) w (W2.alloc (.cells #[.bool (Wd.ngb P.num), .slice Ay ny cy, .slice Ayd nyd cyd] 24)) (.slice C7 j c7) (qs.take j)) := Lib.hid (MR.up ((Up.refl W2).alloc _))
    have HQ : Hid (Qk (ka) (W2.alloc (.cells #[.bool (Wd.ngb P.num), .slice Ay ny cy, .slice Ayd nyd cyd] 24)) (.agg #[.bool (Wd.ngb P.num), .slice Ay ny cy, .slice Ayd nyd cyd]) P) := Lib.hid ⟨Qw.up ⟨_, _, rfl, y, yd⟩ ((Up.refl W2).alloc _), LP⟩
    have HU := Lib.hid (UW.alloc (.cells #[.bool (Wd.ngb P.num), .slice Ay ny cy, .slice Ayd nyd cyd] 24))
    clear MR y yd
    go_wp2_with (at_builtin; refine wl_append_q1 (kp_qk _) Tryz.underlying44 info_rfrac (w0 := w) rfl _ _ rfl rfl HA.out HU.out rfl (heap_alloc_new W2 _) HQ.out (by rw [HTL.out]; omega) ?_; intro V8 W8 MR8 K8 G8 UP8)
    rw [← HTK.out] at MR8
    go_roundw
    case rel => exact ⟨j + 1, by go_num, by omega, MR8, UP8⟩
    case measure => simp [intOf]; omega
  · obtain rfl : j = qs.length := by omega
    rw [List.take_length] at MR
    go_wp2
    go_ret
    exact ⟨_, rfl, MR, UW⟩
set_option maxRecDepth 100000 in
set_option maxHeartbeats 3200000 in
theorem ref_norm14 {v : Value} {qs : List Rat} {k : Nat} {w : World} (h : QSq k w v qs) (hl : qs.length ≤ 1000000) (hk : k ≤ 10000000) : Calls Tryz.prog 22 #[v] w (RetQR k (Pq.nm qs) w) := by
 obtain ⟨A, cv, rfl⟩ := h.form
 have H := Lib.hid h
 clear h
 go_enter Tryz.func22, Tryz.ntmps22
 go_wp2
 go_loopw [3] (fun s3 wr => ∃ n : Nat, s3 = .int .i64 n ∧ n ≤ qs.length ∧ Hid (∀ i, n ≤ i → qs.getD i 0 = 0) ∧ Up w wr) (fun s3 _ => (intOf s3).toNat)
 case atStart => exact ⟨qs.length, rfl, Nat.le_refl _, Lib.hid (fun i hi => by simp [List.getD_eq_getElem?_getD, List.getElem?_eq_none hi]), Up.refl w⟩
 case round =>
  obtain ⟨n, rfl, hn, HZ, UW⟩ := hrel
  cases n with
  | zero =>
    have HN : Hid (Pq.nm qs = qs.take 0) := Lib.hid (Pq.nm_take hn HZ.out (.inl rfl))
    obtain ⟨A', c', xs, e, h1, h2, ha, hr⟩ := H.out.up UW
    cases e
    have kc : (0 : Int) ≤ (cv : Int) := by omega
    have HO : Hid (OwnQ (Qk k) 24 w.heap.size (wr.alloc (.cells #[] 24)) (.slice (some ⟨wr.heap.size, 0, none⟩) 0 0) ([] : List Rat)) := Lib.hid ⟨[], Al.nil _, by simp, .inr ⟨wr.heap.size, [], rfl, UW.size, Bx.new 24 wr [], by simp, by simp [maxLen]⟩⟩
    have HR : Hid (RdV (wr.alloc (.cells #[] 24)) (A) (fcells (xs.take 0))) := Lib.hid (by rw [fcells_take]; exact (hr.up ((Up.refl wr).alloc _)).take _)
    have HAL : Hid (Al (fun x q => Qk k (wr.alloc (.cells #[] 24)) x.agg q) (xs.take 0) (qs.take 0)) := Lib.hid ((ha.imp fun x q hx => Qk.up hx ((Up.refl wr).alloc _)).take _)
    have HM : Hid (0 = (qs.take 0).length) := Lib.hid (by rw [List.length_take]; omega)
    have HM2 : Hid ((qs.take 0).length ≤ 1000000) := Lib.hid (by rw [List.length_take]; omega)
    have HU := Lib.hid (UW.alloc (.cells #[] 24))
    clear ha hr h1 h2
    go_wp2_with (at_builtin; refine wl_append_q (kp_qk k) Tryz.underlying44 info_rfrac (w0 := w) rfl (.tmp 18) (.tmp 21) rfl rfl HO.out HU.out rfl HR.out HAL.out HM.out (by have := HM2.out; simp only [List.length_nil]; omega) ?_; intro v8 w8 R8 K8 G8 U8)
    rw [List.nil_append, ← HN.out] at R8
    go_wp2
    go_ret
    exact ⟨_, rfl, R8, U8⟩
  | succ m =>
    have hm : m < qs.length := by omega
    obtain ⟨b, o, s, B, m0, f, D, n', f', e0, hb, g1, g2, g3, FX⟩ := Sq.at_ (kp_qk k) (H.out.up UW) hm
    subst e0
    have HD : Hid (qs.getD m 0 = qs[m]) := Lib.hid (Pq.getD_at hm)
    generalize qs[m] = q at *
    have FX : Qk k wr (.agg #[.bool s, .slice B m0 f, .slice D n' f']) q := FX
    have k1 : (m : Int) < (qs.length : Int) := by omega
    have k0 : (0 : Int) ≤ (m : Int) := by omega
    have kk : ((m : Int)).toNat = m := by omega
    go_wp2_with fail
    ((with_reducible refine (ref9_zero FX.qw).mono ?_))
    rintro e W3 ⟨rfl, u3⟩
    clear g1 g2 g3 FX
    by_cases hq : q = 0
    · have hs : decide (q = 0) = true := decide_eq_true hq
      rw [hs]
      have HZ2 : Hid (∀ i, m ≤ i → qs.getD i 0 = 0) := Lib.hid (fun i hi => by
       rcases Nat.lt_or_ge m i with h | h
       · exact HZ.out i h
       · obtain rfl : i = m := by omega
         rw [HD.out, hq])
      clear hq hs
      go_wp2
      go_roundw
      case rel => exact ⟨m, by first | rfl | go_num | (congr 1; omega), by omega, HZ2, UW.trans u3⟩
      case measure => simp [intOf] <;> omega
    · have hs : decide (q = 0) = false := decide_eq_false hq
      rw [hs]
      have HNQ : Hid (qs.getD m 0 ≠ 0) := Lib.hid (by rw [HD.out]; exact hq)
      clear hq hs
      have UW := UW.trans u3
      have HN : Hid (Pq.nm qs = qs.take (m + 1)) := Lib.hid (Pq.nm_take hn HZ.out (.inr (by simpa using HNQ.out)))
      obtain ⟨A', c', xs, e, h1, h2, ha, hr⟩ := H.out.up UW
      cases e
      have kc : ((m + 1) : Int) ≤ (cv : Int) := by omega
      have HO : Hid (OwnQ (Qk k) 24 w.heap.size (W3.alloc (.cells #[] 24)) (.slice (some ⟨W3.heap.size, 0, none⟩) 0 0) ([] : List Rat)) := Lib.hid ⟨[], Al.nil _, by simp, .inr ⟨W3.heap.size, [], rfl, UW.size, Bx.new 24 W3 [], by simp, by simp [maxLen]⟩⟩
      have HR : Hid (RdV (W3.alloc (.cells #[] 24)) (some ⟨b, o, none⟩) (fcells (xs.take (m + 1)))) := Lib.hid (by rw [fcells_take]; exact (hr.up ((Up.refl W3).alloc _)).take _)
      have HAL : Hid (Al (fun x q => Qk k (W3.alloc (.cells #[] 24)) x.agg q) (xs.take (m + 1)) (qs.take (m + 1))) := Lib.hid ((ha.imp fun x q hx => Qk.up hx ((Up.refl W3).alloc _)).take _)
      have HM : Hid ((m + 1) = (qs.take (m + 1)).length) := Lib.hid (by rw [List.length_take]; omega)
      have HM2 : Hid ((qs.take (m + 1)).length ≤ 1000000) := Lib.hid (by rw [List.length_take]; omega)
      have HU := Lib.hid (UW.alloc (.cells #[] 24))
      clear ha hr h1 h2
      go_wp2_with (at_builtin; refine wl_append_q (kp_qk k) Tryz.underlying44 info_rfrac (w0 := w) rfl (.tmp 18) (.tmp 21) rfl rfl HO.out HU.out rfl HR.out HAL.out HM.out (by have := HM2.out; simp only [List.length_nil]; omega) ?_; intro v8 w8 R8 K8 G8 U8)
      rw [List.nil_append, ← HN.out] at R8
      go_wp2
      go_ret
      exact ⟨_, rfl, R8, U8⟩
end Go.Proofs.YtmmcffceeahemaaGreat
