/-
  Layer 9: what the statements are made of: turned over, held against one another, the examples.
-/
import Derived.Test.YtmmcffceeahemaaGreatZsFracTo
import Derived.Test.YtmmcffceeahemaaGreatZsLowRefs
set_option linter.unusedVariables false
set_option linter.unusedSimpArgs false
namespace Go.Proofs.YtmmcffceeahemaaGreat
open Go.RowKit
theorem ref_same_u9 {v u : Value} {a b : List Nat} {w : World} (ha : Ws w v a) (hb : Ws w u b) (hla : a.length ≤ 100000000000) (hlb : b.length ≤ 100000000000) :
 Calls Tryz.prog 143 #[v, u] w fun e w' => e = .returned (.bool (decide (a = b))) ∧ Up w w' :=
 (ref_same ha hb hla hlb).mono fun e w' ⟨n, he, hw⟩ => ⟨he, by rw [hw]; exact (Up.refl w).drewN n⟩
set_option maxHeartbeats 1600000 in
theorem ref_same9 {s t : Bool} {u1 d1 u2 d2 : Value} {l l' m m' : List Nat} {w : World} (h1 : Ws w u1 l) (h2 : Ws w d1 m) (h3 : Ws w u2 l') (h4 : Ws w d2 m') (b1 : l.length ≤ 100000000) (b2 : m.length ≤ 100000000) (b3 : l'.length ≤ 100000000) (b4 : m'.length ≤ 100000000) :
 Calls Tryz.prog 97 #[.agg #[.bool s, u1, d1], .agg #[.bool t, u2, d2]] w fun e w' => e = .returned (.bool (rawB s t l l' m m')) ∧ Up w w' := by
 obtain ⟨A, n, c, rfl⟩ := h1.shape
 obtain ⟨D, n2, d, rfl⟩ := h2.shape
 obtain ⟨A', n3, c', rfl⟩ := h3.shape
 obtain ⟨D', n4, d', rfl⟩ := h4.shape
 by_cases e1 : (s == t) = true
 · by_cases e2 : l = l'
   · have HR : Hid (rawB s t l l' m m' = decide (m = m')) := Lib.hid (by unfold rawB; rw [e1, decide_eq_true e2]; rfl)
     have E2 : Hid (decide (l = l') = true) := Lib.hid (decide_eq_true e2)
     clear e2
     have UP : Up w ((w.alloc (.cells #[.bool s, .slice A n c, .slice D n2 d] 24)).alloc (.cells #[.bool t, .slice A' n3 c', .slice D' n4 d'] 24)) := ((Up.refl w).alloc _).alloc _
     obtain ⟨b0, b1⟩ := bx_two 24 24 w [.bool s, .slice A n c, .slice D n2 d] [.bool t, .slice A' n3 c', .slice D' n4 d']
     go_enter Tryz.func97, Tryz.ntmps97
     go_wp2_with fail
     generalize ((w.alloc (.cells #[.bool s, .slice A n c, .slice D n2 d] 24)).alloc (.cells #[.bool t, .slice A' n3 c', .slice D' n4 d'] 24)) = W at *
     replace h1 := h1.up UP
     replace h2 := h2.up UP
     replace h3 := h3.up UP
     replace h4 := h4.up UP
     obtain ⟨b0_0, b0_1, b0_2⟩ := b0.c3
     obtain ⟨b1_0, b1_1, b1_2⟩ := b1.c3
     go_wp2_with fail
     ((with_reducible refine (ref_same_u9 h1 h3 (by omega) (by omega)).mono ?_))
     rintro e W1 ⟨rfl, u1⟩
     replace h1 := h1.up u1
     replace h2 := h2.up u1
     replace h3 := h3.up u1
     replace h4 := h4.up u1
     replace b0 := b0.up u1
     replace b1 := b1.up u1
     replace UP := UP.trans u1
     clear b0_0 b0_1 b0_2 b1_0 b1_1 b1_2
     obtain ⟨b0_0, b0_1, b0_2⟩ := b0.c3
     obtain ⟨b1_0, b1_1, b1_2⟩ := b1.c3
     clear u1
     rw [E2.out]
     go_wp2_with fail
     ((with_reducible refine (ref_same_u9 h2 h4 (by omega) (by omega)).mono ?_))
     rintro e W2 ⟨rfl, u2⟩
     replace h1 := h1.up u2
     replace h2 := h2.up u2
     replace h3 := h3.up u2
     replace h4 := h4.up u2
     replace b0 := b0.up u2
     replace b1 := b1.up u2
     replace UP := UP.trans u2
     clear b0_0 b0_1 b0_2 b1_0 b1_1 b1_2
     obtain ⟨b0_0, b0_1, b0_2⟩ := b0.c3
     obtain ⟨b1_0, b1_1, b1_2⟩ := b1.c3
     clear u2
     go_wp2
     go_ret
     exact ⟨by rw [HR.out]; rfl, UP⟩
   · have HR : Hid (rawB s t l l' m m' = false) := Lib.hid (by unfold rawB; rw [e1, decide_eq_false e2]; rfl)
     have E2 : Hid (decide (l = l') = false) := Lib.hid (decide_eq_false e2)
     clear e2
     have UP : Up w ((w.alloc (.cells #[.bool s, .slice A n c, .slice D n2 d] 24)).alloc (.cells #[.bool t, .slice A' n3 c', .slice D' n4 d'] 24)) := ((Up.refl w).alloc _).alloc _
     obtain ⟨b0, b1⟩ := bx_two 24 24 w [.bool s, .slice A n c, .slice D n2 d] [.bool t, .slice A' n3 c', .slice D' n4 d']
     go_enter Tryz.func97, Tryz.ntmps97
     go_wp2_with fail
     generalize ((w.alloc (.cells #[.bool s, .slice A n c, .slice D n2 d] 24)).alloc (.cells #[.bool t, .slice A' n3 c', .slice D' n4 d'] 24)) = W at *
     replace h1 := h1.up UP
     replace h2 := h2.up UP
     replace h3 := h3.up UP
     replace h4 := h4.up UP
     obtain ⟨b0_0, b0_1, b0_2⟩ := b0.c3
     obtain ⟨b1_0, b1_1, b1_2⟩ := b1.c3
     go_wp2_with fail
     ((with_reducible refine (ref_same_u9 h1 h3 (by omega) (by omega)).mono ?_))
     rintro e W1 ⟨rfl, u1⟩
     replace h1 := h1.up u1
     replace h2 := h2.up u1
     replace h3 := h3.up u1
     replace h4 := h4.up u1
     replace b0 := b0.up u1
     replace b1 := b1.up u1
     replace UP := UP.trans u1
     clear b0_0 b0_1 b0_2 b1_0 b1_1 b1_2
     obtain ⟨b0_0, b0_1, b0_2⟩ := b0.c3
     obtain ⟨b1_0, b1_1, b1_2⟩ := b1.c3
     clear u1
     rw [E2.out]
     go_wp2
     go_ret
     exact ⟨by rw [HR.out]; rfl, UP⟩
 · have e1 : (s == t) = false := by simpa using e1
   have HR : Hid (rawB s t l l' m m' = false) := Lib.hid (by unfold rawB; rw [e1]; rfl)
   have UP : Up w ((w.alloc (.cells #[.bool s, .slice A n c, .slice D n2 d] 24)).alloc (.cells #[.bool t, .slice A' n3 c', .slice D' n4 d'] 24)) := ((Up.refl w).alloc _).alloc _
   obtain ⟨b0, b1⟩ := bx_two 24 24 w [.bool s, .slice A n c, .slice D n2 d] [.bool t, .slice A' n3 c', .slice D' n4 d']
   go_enter Tryz.func97, Tryz.ntmps97
   go_wp2_with fail
   generalize ((w.alloc (.cells #[.bool s, .slice A n c, .slice D n2 d] 24)).alloc (.cells #[.bool t, .slice A' n3 c', .slice D' n4 d'] 24)) = W at *
   replace h1 := h1.up UP
   replace h2 := h2.up UP
   replace h3 := h3.up UP
   replace h4 := h4.up UP
   obtain ⟨b0_0, b0_1, b0_2⟩ := b0.c3
   obtain ⟨b1_0, b1_1, b1_2⟩ := b1.c3
   go_wp2
   go_ret
   exact ⟨by rw [HR.out]; rfl, UP⟩
theorem ref_same9_yes {v u : Value} {q : Rat} {k : Nat} {w : World} (h : Qw w v q) (h' : Qw w u q) (hk : Wd.Lq q k) (hk2 : k ≤ 100000000) : Calls Tryz.prog 97 #[v, u] w fun e w' => e = .returned (.bool true) ∧ Up w w' := by
 obtain ⟨u1, d1, rfl, h1, h2⟩ := h
 obtain ⟨u2, d2, rfl, h3, h4⟩ := h'
 have k1 : (Wd.words q.num.natAbs).length ≤ 100000000 := Nat.le_trans hk.1 hk2
 have k2 : (Wd.words q.den).length ≤ 100000000 := Nat.le_trans hk.2 hk2
 exact (ref_same9 h1 h2 h3 h4 k1 k2 k1 k2).mono fun e w' ⟨he, hu⟩ => ⟨by rw [he, rawB_self], hu⟩
set_option maxHeartbeats 1600000 in
theorem law_is9 {v u : Value} {q : Rat} {k : Nat} {w : World} (h : Qw w v q) (h' : Qw w u q) (hk : Wd.Lq q k) (hk2 : k ≤ 100000000) : Calls Tryz.prog 32 #[v, u] w fun e w' => e = .returned (.bool true) ∧ Up w w' := by
 have H := h
 have K := h'
 obtain ⟨u1, d1, rfl, h1, h2⟩ := h
 obtain ⟨u2, d2, rfl, h3, h4⟩ := h'
 obtain ⟨A, n, c, rfl⟩ := h1.shape
 obtain ⟨D, n2, d, rfl⟩ := h2.shape
 obtain ⟨A', n3, c', rfl⟩ := h3.shape
 obtain ⟨D', n4, d', rfl⟩ := h4.shape
 clear h1 h2 h3 h4
 generalize hb : Wd.ngb q.num = s at *
 have HB := Lib.hid hb
 clear hb
 have UP : Up w ((w.alloc (.cells #[.bool s, .slice A n c, .slice D n2 d] 34)).alloc (.cells #[.bool s, .slice A' n3 c', .slice D' n4 d'] 24)) := ((Up.refl w).alloc _).alloc _
 obtain ⟨b0, b1⟩ := bx_two 34 24 w [.bool s, .slice A n c, .slice D n2 d] [.bool s, .slice A' n3 c', .slice D' n4 d']
 go_enter Tryz.func32, Tryz.ntmps32
 go_wp2_with fail
 generalize ((w.alloc (.cells #[.bool s, .slice A n c, .slice D n2 d] 34)).alloc (.cells #[.bool s, .slice A' n3 c', .slice D' n4 d'] 24)) = W at *
 replace H := H.up UP
 replace K := K.up UP
 obtain ⟨b0_0, b0_1, b0_2⟩ := b0.c3
 obtain ⟨b1_0, b1_1, b1_2⟩ := b1.c3
 replace H := H.up (Up.refl W).drew
 replace K := K.up (Up.refl W).drew
 replace b0 := b0.up (Up.refl W).drew
 replace b1 := b1.up (Up.refl W).drew
 replace UP := UP.trans (Up.refl W).drew
 clear b0_0 b0_1 b0_2 b1_0 b1_1 b1_2
 obtain ⟨b0_0, b0_1, b0_2⟩ := b0.c3
 obtain ⟨b1_0, b1_1, b1_2⟩ := b1.c3
 go_region_held3 (fun w' => Up w w' ∧ w'.cell? ⟨w.heap.size, 0, none⟩ = some (.bool s) ∧ w'.cell? ⟨w.heap.size, 1, none⟩ = some (.slice A n c) ∧ w'.cell? ⟨w.heap.size, 2, none⟩ = some (.slice D n2 d) ∧ w'.cell? ⟨w.heap.size + 1, 0, none⟩ = some (.bool s) ∧ w'.cell? ⟨w.heap.size + 1, 1, none⟩ = some (.slice A' n3 c') ∧ w'.cell? ⟨w.heap.size + 1, 2, none⟩ = some (.slice D' n4 d'))
  (first | with_reducible exact ⟨UP, b0_0, b0_1, b0_2, b1_0, b1_1, b1_2⟩ | with_reducible exact ⟨(UP.alloc_drew _), (cell_alloc_drew b0_0), (cell_alloc_drew b0_1), (cell_alloc_drew b0_2), (cell_alloc_drew b1_0), (cell_alloc_drew b1_1), (cell_alloc_drew b1_2)⟩ | with_reducible exact ⟨(UP.alloc2_drew _ _), (cell_alloc2_drew b0_0), (cell_alloc2_drew b0_1), (cell_alloc2_drew b0_2), (cell_alloc2_drew b1_0), (cell_alloc2_drew b1_1), (cell_alloc2_drew b1_2)⟩ | go_keep)
  ((first
    | (go_at_call 98
       ((with_reducible refine (law_of9 _ _ _ _ _ _ _ _).mono ?_))
       rintro e W1 ⟨rfl, u1⟩
       replace H := H.up u1
       replace K := K.up u1
       replace b0 := b0.up u1
       replace b1 := b1.up u1
       replace UP := UP.trans u1
       clear b0_0 b0_1 b0_2 b1_0 b1_1 b1_2
       obtain ⟨b0_0, b0_1, b0_2⟩ := b0.c3
       obtain ⟨b1_0, b1_1, b1_2⟩ := b1.c3
       clear u1)
    | (go_at_call 97
       ((with_reducible refine (ref_same9_yes H K hk hk2).mono ?_))
       rintro e W2 ⟨rfl, u2⟩
       replace H := H.up u2
       replace K := K.up u2
       replace b0 := b0.up u2
       replace b1 := b1.up u2
       replace UP := UP.trans u2
       clear b0_0 b0_1 b0_2 b1_0 b1_1 b1_2
       obtain ⟨b0_0, b0_1, b0_2⟩ := b0.c3
       obtain ⟨b1_0, b1_1, b1_2⟩ := b1.c3
       clear u2)))
 all_goals
  go_wp2
  go_ret
  exact ⟨rfl, UP⟩
end Go.Proofs.YtmmcffceeahemaaGreat
