/-
  The walk of PolyValues.
-/
import Derived.Test.YtmmcffceeahemaaPolyWorks
import Derived.Test.YtmmcffceeahemaaSeqOpen
set_option linter.unusedVariables false
set_option linter.unusedSimpArgs false
namespace Pq
theorem D_nm : ∀ (p : List Rat) (x : Rat), D (nm p) x = D p x
  | [], x => rfl
  | a :: p, x => by
    have ih := D_nm p x
    unfold nm
    split
    · rename_i h
      have h2 := E_of_nil h.2 x
      rw [h.2] at ih
      simp only [D] at ih ⊢
      rw [h2, ← ih]
      grind
    · simp only [D, E_nm, ih]
theorem mul_le : ∀ p q : List Rat, (mul p q).length ≤ p.length + q.length
  | [], q => by simp [mul]
  | a :: p, q => by
    have := mul_le p q
    rw [mul, add_len, sc_len]
    simp only [List.length_cons]
    omega
theorem leibniz (p q : List Rat) : nm (nm (df (nm (mul p q)))) = nm (nm (add (nm (mul (nm (df p)) q)) (nm (mul p (nm (df q)))))) := nm_ext fun x => by
  simp only [E_nm, E_df, E_add, E_mul, D_nm, D_mul]
end Pq
namespace Go.Proofs.Ytmmcffceeahemaa
open Go.RowKit

/-- A row as it is spelled. -/
def RSq (w : World) (v : Value) (rs : List Raw) : Prop := Sq Rw w v rs
theorem RSq.up {w w' : World} {v : Value} {rs : List Raw} (h : RSq w v rs) (hu : Up w w') : RSq w' v rs := Sq.up kp_rw h hu
theorem RSq.form {w : World} {v : Value} {rs : List Raw} (h : RSq w v rs) : ∃ A c, v = .slice A rs.length c := Sq.form h
theorem RSq.fs {w : World} {v : Value} {rs : List Raw} (h : RSq w v rs) {k : Nat} (hk : ∀ r ∈ rs, r.few k) (h1 : 1 ≤ k) : FSq k w v (rs.map Raw.val) := Sq.frs h hk h1
theorem ref_long11r {v : Value} {rs : List Raw} {w : World} (m k : Nat) (h : RSq w v rs) (hm : m ≤ 1000000) (hk : k ≤ 1000000) : Calls Try.prog 25 #[v, .int .i64 (m : Int), .int .i64 (k : Int)] w (RetLong11 rs m k w) := ref_long11 m k h (by omega) (by omega)
theorem law_to11f {k : Nat} {v : Value} {ps : List Rat} {w : World} (h : FSq k w v ps) (hl : ps.length ≤ 10000) : Calls Try.prog 28 #[v] w (RetF k ps w) := (law_to11 (kp_fr k) h.sq (by omega)).mono fun e w' ⟨V, h1, h2, h3⟩ => ⟨V, h1, OwnQ.sq h2, h3⟩
theorem ref_long_6_2 {v : Value} {rs : List Raw} {w : World} (h : RSq w v rs) : Calls Try.prog 25 #[v, .int .i64 6, .int .i64 2] w (RetLong11 rs 6 2 w) := ref_long11r 6 2 h (by omega) (by omega)
set_option maxRecDepth 100000 in
set_option maxHeartbeats 6400000 in
theorem polyValues_walk {v u U D : Value} {s : Bool} {l m : List Nat} {rs ts : List Raw} {w : World} (h : RSq w v rs) (h' : RSq w u ts) (hl : Ws w U l) (hm : Ws w D m) :
    Calls Try.prog 9 #[v, u, .agg #[.bool s, U, D]] w fun e w' => e = .returned (.bool true) ∧ Up w w' := by
  obtain ⟨A1, c1, rfl⟩ := h.form
  obtain ⟨A2, c2, rfl⟩ := h'.form
  obtain ⟨A3, c3, rfl⟩ := hl.form
  obtain ⟨A4, c4, rfl⟩ := hm.form
  have UP : Up w (w.alloc (.cells #[.bool s, .slice A3 l.length c3, .slice A4 m.length c4] 61)) := (Up.refl w).alloc _
  have b0 := Bx.new 61 w [.bool s, .slice A3 l.length c3, .slice A4 m.length c4]
  go_enter Try.func9, Try.ntmps9
  go_wp2_with fail
  generalize (w.alloc (.cells #[.bool s, .slice A3 l.length c3, .slice A4 m.length c4] 61)) = W at *
  replace h := h.up UP
  replace h' := h'.up UP
  replace hl := hl.up UP
  replace hm := hm.up UP
  obtain ⟨b0_0, b0_1, b0_2⟩ := b0.c3
  go_wp2_with fail
  ((with_reducible refine (ref_long_6_2 h).mono ?_))
  rintro e W1 ⟨t1, rfl, ht1, u1⟩
  replace h := h.up u1
  replace h' := h'.up u1
  replace hl := hl.up u1
  replace hm := hm.up u1
  replace b0 := b0.up u1
  replace UP := UP.trans u1
  clear b0_0 b0_1 b0_2
  obtain ⟨b0_0, b0_1, b0_2⟩ := b0.c3
  clear u1
  cases t1
  rotate_left
  · skip
    go_wp2_with fail
    ((with_reducible refine (works14 _).mono ?_))
    rintro e W2 ⟨rfl, u2⟩
    replace h := h.up u2
    replace h' := h'.up u2
    replace hl := hl.up u2
    replace hm := hm.up u2
    replace b0 := b0.up u2
    replace UP := UP.trans u2
    clear b0_0 b0_1 b0_2
    obtain ⟨b0_0, b0_1, b0_2⟩ := b0.c3
    clear u2
    go_wp2
    go_ret
    exact ⟨rfl, UP⟩
  obtain ⟨hr1, hr2⟩ := ht1.out rfl
  clear ht1
  go_wp2_with fail
  ((with_reducible refine (ref_long_6_2 h').mono ?_))
  rintro e W2 ⟨t2, rfl, ht2, u2⟩
  replace h := h.up u2
  replace h' := h'.up u2
  replace hl := hl.up u2
  replace hm := hm.up u2
  replace b0 := b0.up u2
  replace UP := UP.trans u2
  clear b0_0 b0_1 b0_2
  obtain ⟨b0_0, b0_1, b0_2⟩ := b0.c3
  clear u2
  cases t2
  rotate_left
  · skip
    go_wp2_with fail
    ((with_reducible refine (works14 _).mono ?_))
    rintro e W3 ⟨rfl, u3⟩
    replace h := h.up u3
    replace h' := h'.up u3
    replace hl := hl.up u3
    replace hm := hm.up u3
    replace b0 := b0.up u3
    replace UP := UP.trans u3
    clear b0_0 b0_1 b0_2
    obtain ⟨b0_0, b0_1, b0_2⟩ := b0.c3
    clear u3
    go_wp2
    go_ret
    exact ⟨rfl, UP⟩
  obtain ⟨hs1, hs2⟩ := ht2.out rfl
  clear ht2
  by_cases h1 : (2 : Int) < (l.length : Int) ∨ (2 : Int) < (m.length : Int)
  · have H1 := Lib.hid h1
    clear h1
    go_wp2_with fail
    ((with_reducible refine (ref_long9_yes H1.out (by omega)).mono ?_))
    rintro e W3 ⟨rfl, u3⟩
    replace h := h.up u3
    replace h' := h'.up u3
    replace hl := hl.up u3
    replace hm := hm.up u3
    replace b0 := b0.up u3
    replace UP := UP.trans u3
    clear b0_0 b0_1 b0_2
    obtain ⟨b0_0, b0_1, b0_2⟩ := b0.c3
    clear u3
    go_wp2_with fail
    ((with_reducible refine (works14 _).mono ?_))
    rintro e W4 ⟨rfl, u4⟩
    replace h := h.up u4
    replace h' := h'.up u4
    replace hl := hl.up u4
    replace hm := hm.up u4
    replace b0 := b0.up u4
    replace UP := UP.trans u4
    clear b0_0 b0_1 b0_2
    obtain ⟨b0_0, b0_1, b0_2⟩ := b0.c3
    clear u4
    go_wp2
    go_ret
    exact ⟨rfl, UP⟩
  have l1 : (l.length : Int) ≤ 2 := by omega
  have l2 : (m.length : Int) ≤ 2 := by omega
  clear h1
  obtain ⟨z, hz⟩ : ∃ q, mkRat (Wd.iv s (Wd.val l)) (Wd.val m) = q := ⟨_, rfl⟩
  have FZ : Fr W2 (.agg #[.bool s, .slice A3 l.length c3, .slice A4 m.length c4]) z 2 := ⟨s, _, _, l, m, rfl, hl, hm, hz, by omega, by omega, by omega⟩
  have fx := h.fs hr2 (by omega)
  have fy := h'.fs hs2 (by omega)
  have HLP : Hid ((rs.map Raw.val).length ≤ 6) := Lib.hid (by rw [List.length_map]; exact hr1)
  have HLQ : Hid ((ts.map Raw.val).length ≤ 6) := Lib.hid (by rw [List.length_map]; exact hs1)
  clear hr1 hr2 hs1 hs2 hz
  clear h h' hl hm
  generalize rs.map Raw.val = ps at *
  generalize ts.map Raw.val = qs at *
  have LP := Lib.hid ((Pq.Lp.few fx.lq).mono (k := 13) (by have := HLP.out; omega))
  have LQ := Lib.hid ((Pq.Lp.few fy.lq).mono (k := 13) (by have := HLQ.out; omega))
  have LM := Lib.hid (LP.out.mul LQ.out (by have := HLP.out; omega))
  have HLM : Hid ((Pq.nm (Pq.mul ps qs)).length ≤ 12) := Lib.hid (Nat.le_trans (Pq.nm_len _) (Nat.le_trans (Pq.mul_le _ _) (by have := HLP.out; have := HLQ.out; omega)))
  have LS := Lib.hid (LP.out.add LQ.out).nm
  have HLS : Hid ((Pq.nm (Pq.add ps qs)).length ≤ 6) := Lib.hid (Nat.le_trans (Pq.nm_len _) (by rw [Pq.add_len]; have := HLP.out; have := HLQ.out; omega))
  have LD1 := Lib.hid (Lp.df LP.out (by have := HLP.out; omega)).nm
  have LD2 := Lib.hid (Lp.df LQ.out (by have := HLQ.out; omega)).nm
  have HLD1 : Hid ((Pq.nm (Pq.df ps)).length ≤ 6) := Lib.hid (Nat.le_trans (Pq.nm_len _) (by rw [Pq.df_len]; have := HLP.out; omega))
  have HLD2 : Hid ((Pq.nm (Pq.df qs)).length ≤ 6) := Lib.hid (Nat.le_trans (Pq.nm_len _) (by rw [Pq.df_len]; have := HLQ.out; omega))
  have LM1 := Lib.hid (LD1.out.mul LQ.out (by have := HLD1.out; omega))
  have LM2 := Lib.hid (LP.out.mul LD2.out (by have := HLP.out; omega))
  have HLM1 : Hid ((Pq.nm (Pq.mul (Pq.nm (Pq.df ps)) qs)).length ≤ 12) := Lib.hid (Nat.le_trans (Pq.nm_len _) (Nat.le_trans (Pq.mul_le _ _) (by have := HLD1.out; have := HLQ.out; omega)))
  have HLM2 : Hid ((Pq.nm (Pq.mul ps (Pq.nm (Pq.df qs)))).length ≤ 12) := Lib.hid (Nat.le_trans (Pq.nm_len _) (Nat.le_trans (Pq.mul_le _ _) (by have := HLP.out; have := HLD2.out; omega)))
  have HLDM : Hid ((Pq.nm (Pq.df (Pq.nm (Pq.mul ps qs)))).length ≤ 100) := Lib.hid (Nat.le_trans (Pq.nm_len _) (by rw [Pq.df_len]; have := HLM.out; omega))
  have HLA : Hid ((Pq.nm (Pq.add (Pq.nm (Pq.mul (Pq.nm (Pq.df ps)) qs)) (Pq.nm (Pq.mul ps (Pq.nm (Pq.df qs)))))).length ≤ 100) := Lib.hid (Nat.le_trans (Pq.nm_len _) (by rw [Pq.add_len]; have := HLM1.out; have := HLM2.out; omega))
  have HLB : Hid (decide (Pq.nm (Pq.nm (Pq.df (Pq.nm (Pq.mul ps qs)))) = Pq.nm (Pq.nm (Pq.add (Pq.nm (Pq.mul (Pq.nm (Pq.df ps)) qs)) (Pq.nm (Pq.mul ps (Pq.nm (Pq.df qs))))))) = true) := Lib.hid (decide_eq_true (Pq.leibniz ps qs))
  obtain ⟨EX, HEX⟩ : ∃ e, Hid (Pq.E ps z = e) := ⟨_, Lib.hid rfl⟩
  obtain ⟨EY, HEY⟩ : ∃ e, Hid (Pq.E qs z = e) := ⟨_, Lib.hid rfl⟩
  obtain ⟨EM, HEM⟩ : ∃ e, Hid (EX * EY = e) := ⟨_, Lib.hid rfl⟩
  obtain ⟨ES, HES⟩ : ∃ e, Hid (EX + EY = e) := ⟨_, Lib.hid rfl⟩
  have HE1 : Hid (Pq.E (Pq.nm (Pq.mul ps qs)) z = EM) := Lib.hid (by rw [Pq.E_nm, Pq.E_mul, HEX.out, HEY.out, HEM.out])
  have HE2 : Hid (Pq.E (Pq.nm (Pq.add ps qs)) z = ES) := Lib.hid (by rw [Pq.E_nm, Pq.E_add, HEX.out, HEY.out, HES.out])
  have LEX : Wd.Lq EX 32 := by
    rw [← HEX.out]
    exact (lq_eval FZ.lq ps fx.lq).mono (by have := HLP.out; omega)
  have LEY : Wd.Lq EY 32 := by
    rw [← HEY.out]
    exact (lq_eval FZ.lq qs fy.lq).mono (by have := HLQ.out; omega)
  have LEM : Wd.Lq EM 64 := by rw [← HEM.out]; exact LEX.mul LEY
  have LES : Wd.Lq ES 65 := by rw [← HES.out]; exact LEX.add LEY
  have hp6 := HLP.out
  have hq6 := HLQ.out
  go_wp2_with fail
  ((with_reducible refine (ref_long9_no l1 l2 (by omega)).mono ?_))
  rintro e W3 ⟨rfl, u3⟩
  replace FZ := FZ.up u3
  replace fx := fx.up u3
  replace fy := fy.up u3
  replace b0 := b0.up u3
  replace UP := UP.trans u3
  clear b0_0 b0_1 b0_2
  obtain ⟨b0_0, b0_1, b0_2⟩ := b0.c3
  clear u3
  go_wp2_with fail
  ((with_reducible refine (law_to11f fx (by omega)).mono ?_))
  rintro e W4 ⟨V4, rfl, x, u4⟩
  replace FZ := FZ.up u4
  replace fx := fx.up u4
  replace fy := fy.up u4
  replace b0 := b0.up u4
  replace UP := UP.trans u4
  clear b0_0 b0_1 b0_2
  obtain ⟨b0_0, b0_1, b0_2⟩ := b0.c3
  clear u4
  go_wp2_with fail
  ((with_reducible refine (law_to11f fy (by omega)).mono ?_))
  rintro e W5 ⟨V5, rfl, y, u5⟩
  replace FZ := FZ.up u5
  replace fx := fx.up u5
  replace fy := fy.up u5
  replace x := x.up u5
  replace b0 := b0.up u5
  replace UP := UP.trans u5
  clear b0_0 b0_1 b0_2
  obtain ⟨b0_0, b0_1, b0_2⟩ := b0.c3
  clear u5
  clear fx fy
  go_wp2_with fail
  ((with_reducible refine (law_to9 _ _ _ _ _ _ _ _).mono ?_))
  rintro e W6 ⟨rfl, u6⟩
  replace FZ := FZ.up u6
  replace x := x.up u6
  replace y := y.up u6
  replace b0 := b0.up u6
  replace UP := UP.trans u6
  clear b0_0 b0_1 b0_2
  obtain ⟨b0_0, b0_1, b0_2⟩ := b0.c3
  clear u6
  have b0_0a := fun O0 => (cell_alloc (o := O0) b0_0)
  have b0_1a := fun O0 => (cell_alloc (o := O0) b0_1)
  have b0_2a := fun O0 => (cell_alloc (o := O0) b0_2)
  go_wp2_with fail
  clear b0_0a b0_1a b0_2a
  have x1 := Bx.new 69 W6 [.bool s, .slice A3 l.length c3, .slice A4 m.length c4]
  have b0_lt_x1 := b0.lt
  replace FZ := FZ.up ((Up.refl W6).alloc (.cells #[.bool s, .slice A3 l.length c3, .slice A4 m.length c4] 69))
  replace x := x.up ((Up.refl W6).alloc (.cells #[.bool s, .slice A3 l.length c3, .slice A4 m.length c4] 69))
  replace y := y.up ((Up.refl W6).alloc (.cells #[.bool s, .slice A3 l.length c3, .slice A4 m.length c4] 69))
  replace b0 := b0.up ((Up.refl W6).alloc (.cells #[.bool s, .slice A3 l.length c3, .slice A4 m.length c4] 69))
  replace UP := UP.trans ((Up.refl W6).alloc (.cells #[.bool s, .slice A3 l.length c3, .slice A4 m.length c4] 69))
  generalize (W6.alloc (.cells #[.bool s, .slice A3 l.length c3, .slice A4 m.length c4] 69)) = W7 at *
  clear b0_0 b0_1 b0_2
  obtain ⟨b0_0, b0_1, b0_2⟩ := b0.c3
  obtain ⟨x1_0, x1_1, x1_2⟩ := x1.c3
  ((with_reducible refine (poly_mul2 x y LP.out LQ.out (by omega) (by omega) (by omega) (by omega) (by omega)).mono ?_))
  rintro e W8 ⟨V8, rfl, p, u8⟩
  replace FZ := FZ.up u8
  replace x := x.up u8
  replace y := y.up u8
  replace b0 := b0.up u8
  replace x1 := x1.up u8
  replace UP := UP.trans u8
  clear b0_0 b0_1 b0_2 x1_0 x1_1 x1_2
  obtain ⟨b0_0, b0_1, b0_2⟩ := b0.c3
  obtain ⟨x1_0, x1_1, x1_2⟩ := x1.c3
  clear u8
  go_wp2_with fail
  replace p := p.fs
  replace FZ := FZ.up (Up.refl W8).drew
  replace x := x.up (Up.refl W8).drew
  replace y := y.up (Up.refl W8).drew
  replace p := p.up (Up.refl W8).drew
  replace b0 := b0.up (Up.refl W8).drew
  replace x1 := x1.up (Up.refl W8).drew
  replace UP := UP.trans (Up.refl W8).drew
  clear b0_0 b0_1 b0_2 x1_0 x1_1 x1_2
  obtain ⟨b0_0, b0_1, b0_2⟩ := b0.c3
  obtain ⟨x1_0, x1_1, x1_2⟩ := x1.c3
  refine wp_region_noPanic ?_
  refine wp_region_held_drew (S := fun w' => Up w w' ∧ w'.cell? ⟨W6.heap.size, 0, none⟩ = some (.bool s) ∧ w'.cell? ⟨W6.heap.size, 1, none⟩ = some (.slice A3 l.length c3) ∧ w'.cell? ⟨W6.heap.size, 2, none⟩ = some (.slice A4 m.length c4)) (by kernel_rfl) ?_ (fun hHeld => ?_)
  · (first | with_reducible exact ⟨UP, x1_0, x1_1, x1_2⟩ | with_reducible exact ⟨UP, x1_0, x1_1, x1_2⟩ | with_reducible exact ⟨(UP.alloc_drew _), (cell_alloc_drew x1_0), (cell_alloc_drew x1_1), (cell_alloc_drew x1_2)⟩ | with_reducible exact ⟨(UP.alloc2_drew _ _), (cell_alloc2_drew x1_0), (cell_alloc2_drew x1_1), (cell_alloc2_drew x1_2)⟩ | (simp only [← World.setCell_drew]; first | with_reducible exact ⟨UP, x1_0, x1_1, x1_2⟩) | go_keep)
  refine wpAnyH_take (i := 0) (v := ?_) rfl (by kernel_rfl) (by kernel_rfl) (by kernel_rfl) (fun _ _ _ h => h) (Or.inl ⟨by rfl, ?_⟩) (by assumption) ?_
  rotate_left
  · (intro w hSw; (try dsimp only at hSw); go_simp; first | done | with_reducible rfl)
  try simp only [List.getElem_toArray, List.getElem_cons_zero, List.getElem_cons_succ, Act.put, List.setIfInBounds_toArray, List.set_cons_zero, List.set_cons_succ]
  refine wpAnyH_take (i := 1) (v := ?_) rfl (by kernel_rfl) (by kernel_rfl) (by kernel_rfl) (fun _ _ _ h => h) (Or.inl ⟨by rfl, ?_⟩) (by assumption) ?_
  rotate_left
  · (intro w hSw; (try dsimp only at hSw); go_simp; first | done | with_reducible rfl)
  try simp only [List.getElem_toArray, List.getElem_cons_zero, List.getElem_cons_succ, Act.put, List.setIfInBounds_toArray, List.set_cons_zero, List.set_cons_succ]
  refine wpAnyH_take (i := 3) (v := ?_) rfl (by kernel_rfl) (by kernel_rfl) (by kernel_rfl) (fun _ _ _ h => h) (Or.inl ⟨by rfl, ?_⟩) (by assumption) ?_
  rotate_left
  · (intro w hSw; (try dsimp only at hSw); go_simp; first | done | with_reducible rfl)
  try simp only [List.getElem_toArray, List.getElem_cons_zero, List.getElem_cons_succ, Act.put, List.setIfInBounds_toArray, List.set_cons_zero, List.set_cons_succ]
  refine wpAnyH_take (i := 4) (v := ?_) rfl (by kernel_rfl) (by kernel_rfl) (by kernel_rfl) (fun _ _ _ h => h) (Or.inl ⟨by rfl, ?_⟩) (by assumption) ?_
  rotate_left
  · (intro w hSw; (try dsimp only at hSw); go_simp; first | done | with_reducible rfl)
  try simp only [List.getElem_toArray, List.getElem_cons_zero, List.getElem_cons_succ, Act.put, List.setIfInBounds_toArray, List.set_cons_zero, List.set_cons_succ]
  refine wpAnyH_take (i := 6) (v := ?_) rfl (by kernel_rfl) (by kernel_rfl) (by kernel_rfl) (fun _ _ _ h => h) (Or.inl ⟨by rfl, ?_⟩) (by assumption) ?_
  rotate_left
  · (intro w hSw; (try dsimp only at hSw); go_simp; first | done | with_reducible rfl)
  try simp only [List.getElem_toArray, List.getElem_cons_zero, List.getElem_cons_succ, Act.put, List.setIfInBounds_toArray, List.set_cons_zero, List.set_cons_succ]
  refine wpAnyH_take (i := 7) (v := ?_) rfl (by kernel_rfl) (by kernel_rfl) (by kernel_rfl) (fun _ _ _ h => h) (Or.inl ⟨by rfl, ?_⟩) (by assumption) ?_
  rotate_left
  · (intro w hSw; (try dsimp only at hSw); go_simp; first | done | with_reducible rfl)
  try simp only [List.getElem_toArray, List.getElem_cons_zero, List.getElem_cons_succ, Act.put, List.setIfInBounds_toArray, List.set_cons_zero, List.set_cons_succ]
  refine wpAnyH_ready (rs := [2]) (by kernel_rfl) (by simp) ?_
  refine AllReadyH.cons rfl (fun K hK => ?_) AllReadyH.nil
  go_simp
  (first
        | (go_at_call 65
           ((with_reducible refine (poly_eval FZ p.sq (by have := HLM.out; omega) (by have := HLM.out; omega) (by omega) (by omega)).mono ?_))
           rintro e W9 ⟨V9, rfl, e1, u9⟩
           replace FZ := FZ.up u9
           replace x := x.up u9
           replace y := y.up u9
           replace p := p.up u9
           try (replace e1 := e1.up u9)
           try (replace e2 := e2.up u9)
           try (replace e3 := e3.up u9)
           try (replace e4 := e4.up u9)
           try (replace sm := sm.up u9)
           try (replace e5 := e5.up u9)
           try (replace e6 := e6.up u9)
           try (replace e7 := e7.up u9)
           try (replace e8 := e8.up u9)
           replace b0 := b0.up u9
           replace x1 := x1.up u9
           replace UP := UP.trans u9
           clear b0_0 b0_1 b0_2 x1_0 x1_1 x1_2
           obtain ⟨b0_0, b0_1, b0_2⟩ := b0.c3
           obtain ⟨x1_0, x1_1, x1_2⟩ := x1.c3
           clear u9
           rw [HE1.out] at e1))
  try go_wp2_with fail
  try clear hHeld
  refine hK.out _ _ ?_ (fun hHeld => ?_)
  · (first | with_reducible exact ⟨UP, x1_0, x1_1, x1_2⟩ | with_reducible exact ⟨UP, x1_0, x1_1, x1_2⟩ | with_reducible exact ⟨(UP.alloc_drew _), (cell_alloc_drew x1_0), (cell_alloc_drew x1_1), (cell_alloc_drew x1_2)⟩ | with_reducible exact ⟨(UP.alloc2_drew _ _), (cell_alloc2_drew x1_0), (cell_alloc2_drew x1_1), (cell_alloc2_drew x1_2)⟩ | (simp only [← World.setCell_drew]; first | with_reducible exact ⟨UP, x1_0, x1_1, x1_2⟩) | go_keep)
  clear hK K
  try simp only [List.getElem_toArray, List.getElem_cons_zero, List.getElem_cons_succ, Act.put, List.setIfInBounds_toArray, List.set_cons_zero, List.set_cons_succ]
  refine wpAnyH_ready (rs := [5]) (by kernel_rfl) (by simp) ?_
  refine AllReadyH.cons rfl (fun K hK => ?_) AllReadyH.nil
  go_simp
  (first
        | (go_at_call 65
           ((with_reducible refine (poly_eval FZ x.sq (by omega) (by omega) (by omega) (by omega)).mono ?_))
           rintro e W10 ⟨V10, rfl, e2, u10⟩
           replace FZ := FZ.up u10
           replace x := x.up u10
           replace y := y.up u10
           replace p := p.up u10
           try (replace e1 := e1.up u10)
           try (replace e2 := e2.up u10)
           try (replace e3 := e3.up u10)
           try (replace e4 := e4.up u10)
           try (replace sm := sm.up u10)
           try (replace e5 := e5.up u10)
           try (replace e6 := e6.up u10)
           try (replace e7 := e7.up u10)
           try (replace e8 := e8.up u10)
           replace b0 := b0.up u10
           replace x1 := x1.up u10
           replace UP := UP.trans u10
           clear b0_0 b0_1 b0_2 x1_0 x1_1 x1_2
           obtain ⟨b0_0, b0_1, b0_2⟩ := b0.c3
           obtain ⟨x1_0, x1_1, x1_2⟩ := x1.c3
           clear u10
           rw [HEX.out] at e2))
  try go_wp2_with fail
  try clear hHeld
  refine hK.out _ _ ?_ (fun hHeld => ?_)
  · (first | with_reducible exact ⟨UP, x1_0, x1_1, x1_2⟩ | with_reducible exact ⟨UP, x1_0, x1_1, x1_2⟩ | with_reducible exact ⟨(UP.alloc_drew _), (cell_alloc_drew x1_0), (cell_alloc_drew x1_1), (cell_alloc_drew x1_2)⟩ | with_reducible exact ⟨(UP.alloc2_drew _ _), (cell_alloc2_drew x1_0), (cell_alloc2_drew x1_1), (cell_alloc2_drew x1_2)⟩ | (simp only [← World.setCell_drew]; first | with_reducible exact ⟨UP, x1_0, x1_1, x1_2⟩) | go_keep)
  clear hK K
  try simp only [List.getElem_toArray, List.getElem_cons_zero, List.getElem_cons_succ, Act.put, List.setIfInBounds_toArray, List.set_cons_zero, List.set_cons_succ]
  refine wpAnyH_ready (rs := [8]) (by kernel_rfl) (by simp) ?_
  refine AllReadyH.cons rfl (fun K hK => ?_) AllReadyH.nil
  go_simp
  (first
        | (go_at_call 65
           ((with_reducible refine (poly_eval FZ y.sq (by omega) (by omega) (by omega) (by omega)).mono ?_))
           rintro e W11 ⟨V11, rfl, e3, u11⟩
           replace FZ := FZ.up u11
           replace x := x.up u11
           replace y := y.up u11
           replace p := p.up u11
           try (replace e1 := e1.up u11)
           try (replace e2 := e2.up u11)
           try (replace e3 := e3.up u11)
           try (replace e4 := e4.up u11)
           try (replace sm := sm.up u11)
           try (replace e5 := e5.up u11)
           try (replace e6 := e6.up u11)
           try (replace e7 := e7.up u11)
           try (replace e8 := e8.up u11)
           replace b0 := b0.up u11
           replace x1 := x1.up u11
           replace UP := UP.trans u11
           clear b0_0 b0_1 b0_2 x1_0 x1_1 x1_2
           obtain ⟨b0_0, b0_1, b0_2⟩ := b0.c3
           obtain ⟨x1_0, x1_1, x1_2⟩ := x1.c3
           clear u11
           rw [HEY.out] at e3))
  try go_wp2_with fail
  try clear hHeld
  refine hK.out _ _ ?_ (fun hHeld => ?_)
  · (first | with_reducible exact ⟨UP, x1_0, x1_1, x1_2⟩ | with_reducible exact ⟨UP, x1_0, x1_1, x1_2⟩ | with_reducible exact ⟨(UP.alloc_drew _), (cell_alloc_drew x1_0), (cell_alloc_drew x1_1), (cell_alloc_drew x1_2)⟩ | with_reducible exact ⟨(UP.alloc2_drew _ _), (cell_alloc2_drew x1_0), (cell_alloc2_drew x1_1), (cell_alloc2_drew x1_2)⟩ | (simp only [← World.setCell_drew]; first | with_reducible exact ⟨UP, x1_0, x1_1, x1_2⟩) | go_keep)
  clear hK K
  try simp only [List.getElem_toArray, List.getElem_cons_zero, List.getElem_cons_succ, Act.put, List.setIfInBounds_toArray, List.set_cons_zero, List.set_cons_succ]
  refine wpAnyH_ready (rs := [9]) (by kernel_rfl) (by simp) ?_
  refine AllReadyH.cons rfl (fun K hK => ?_) AllReadyH.nil
  go_simp
  (first
        | (go_at_call 48
           ((with_reducible refine (frac_mul (e2.fr LEX) (e3.fr LEY) (by omega) (by omega)).mono ?_))
           rintro e W12 ⟨V12, rfl, e4, u12⟩
           replace FZ := FZ.up u12
           replace x := x.up u12
           replace y := y.up u12
           replace p := p.up u12
           try (replace e1 := e1.up u12)
           try (replace e2 := e2.up u12)
           try (replace e3 := e3.up u12)
           try (replace e4 := e4.up u12)
           try (replace sm := sm.up u12)
           try (replace e5 := e5.up u12)
           try (replace e6 := e6.up u12)
           try (replace e7 := e7.up u12)
           try (replace e8 := e8.up u12)
           replace b0 := b0.up u12
           replace x1 := x1.up u12
           replace UP := UP.trans u12
           clear b0_0 b0_1 b0_2 x1_0 x1_1 x1_2
           obtain ⟨b0_0, b0_1, b0_2⟩ := b0.c3
           obtain ⟨x1_0, x1_1, x1_2⟩ := x1.c3
           clear u12
           rw [HEM.out] at e4))
  try go_wp2_with fail
  try clear hHeld
  refine hK.out _ _ ?_ (fun hHeld => ?_)
  · (first | with_reducible exact ⟨UP, x1_0, x1_1, x1_2⟩ | with_reducible exact ⟨UP, x1_0, x1_1, x1_2⟩ | with_reducible exact ⟨(UP.alloc_drew _), (cell_alloc_drew x1_0), (cell_alloc_drew x1_1), (cell_alloc_drew x1_2)⟩ | with_reducible exact ⟨(UP.alloc2_drew _ _), (cell_alloc2_drew x1_0), (cell_alloc2_drew x1_1), (cell_alloc2_drew x1_2)⟩ | (simp only [← World.setCell_drew]; first | with_reducible exact ⟨UP, x1_0, x1_1, x1_2⟩) | go_keep)
  clear hK K
  try simp only [List.getElem_toArray, List.getElem_cons_zero, List.getElem_cons_succ, Act.put, List.setIfInBounds_toArray, List.set_cons_zero, List.set_cons_succ]
  refine wpAnyH_ready (rs := [10]) (by kernel_rfl) (by simp) ?_
  refine AllReadyH.cons rfl (fun K hK => ?_) AllReadyH.nil
  go_simp
  (first
        | (go_at_call 54
           ((with_reducible refine (frac_same (e1.fr LEM) (e4.fr LEM) (by omega) (by omega)).mono ?_))
           rintro e W13 ⟨rfl, u13⟩
           replace FZ := FZ.up u13
           replace x := x.up u13
           replace y := y.up u13
           replace p := p.up u13
           try (replace e1 := e1.up u13)
           try (replace e2 := e2.up u13)
           try (replace e3 := e3.up u13)
           try (replace e4 := e4.up u13)
           try (replace sm := sm.up u13)
           try (replace e5 := e5.up u13)
           try (replace e6 := e6.up u13)
           try (replace e7 := e7.up u13)
           try (replace e8 := e8.up u13)
           replace b0 := b0.up u13
           replace x1 := x1.up u13
           replace UP := UP.trans u13
           clear b0_0 b0_1 b0_2 x1_0 x1_1 x1_2
           obtain ⟨b0_0, b0_1, b0_2⟩ := b0.c3
           obtain ⟨x1_0, x1_1, x1_2⟩ := x1.c3
           clear u13
           rw [show decide (EM = EM) = true from decide_eq_true rfl]))
  try go_wp2_with fail
  try clear hHeld
  refine hK.out _ _ ?_ (fun hHeld => ?_)
  · (first | with_reducible exact ⟨UP, x1_0, x1_1, x1_2⟩ | with_reducible exact ⟨UP, x1_0, x1_1, x1_2⟩ | with_reducible exact ⟨(UP.alloc_drew _), (cell_alloc_drew x1_0), (cell_alloc_drew x1_1), (cell_alloc_drew x1_2)⟩ | with_reducible exact ⟨(UP.alloc2_drew _ _), (cell_alloc2_drew x1_0), (cell_alloc2_drew x1_1), (cell_alloc2_drew x1_2)⟩ | (simp only [← World.setCell_drew]; first | with_reducible exact ⟨UP, x1_0, x1_1, x1_2⟩) | go_keep)
  clear hK K
  try simp only [List.getElem_toArray, List.getElem_cons_zero, List.getElem_cons_succ, Act.put, List.setIfInBounds_toArray, List.set_cons_zero, List.set_cons_succ]
  refine wpAnyH_take (i := 11) (v := ?_) rfl (by kernel_rfl) (by kernel_rfl) (by kernel_rfl) (fun _ _ _ h => h) (Or.inl ⟨by rfl, ?_⟩) (by assumption) ?_
  rotate_left
  · (intro w hSw; (try dsimp only at hSw); go_simp; first | done | with_reducible rfl)
  try simp only [List.getElem_toArray, List.getElem_cons_zero, List.getElem_cons_succ, Act.put, List.setIfInBounds_toArray, List.set_cons_zero, List.set_cons_succ]
  refine wpAnyH_take (i := 12) (v := ?_) rfl (by kernel_rfl) (by kernel_rfl) (by kernel_rfl) (fun _ _ _ h => h) (Or.inl ⟨by rfl, ?_⟩) (by assumption) ?_
  rotate_left
  · (intro w hSw; (try dsimp only at hSw); go_simp; first | done | with_reducible rfl)
  try simp only [List.getElem_toArray, List.getElem_cons_zero, List.getElem_cons_succ, Act.put, List.setIfInBounds_toArray, List.set_cons_zero, List.set_cons_succ]
  refine wpAnyH_take (i := 13) (v := ?_) rfl (by kernel_rfl) (by kernel_rfl) (by kernel_rfl) (fun _ _ _ h => h) (Or.inl ⟨by rfl, ?_⟩) (by assumption) ?_
  rotate_left
  · (intro w hSw; (try dsimp only at hSw); go_simp; first | done | with_reducible rfl)
  try simp only [List.getElem_toArray, List.getElem_cons_zero, List.getElem_cons_succ, Act.put, List.setIfInBounds_toArray, List.set_cons_zero, List.set_cons_succ]
  refine wpAnyH_take (i := 14) (v := ?_) rfl (by kernel_rfl) (by kernel_rfl) (by kernel_rfl) (fun _ _ _ h => h) (Or.inl ⟨by rfl, ?_⟩) (by assumption) ?_
  rotate_left
  · (intro w hSw; (try dsimp only at hSw); go_simp; first | done | with_reducible rfl)
  try simp only [List.getElem_toArray, List.getElem_cons_zero, List.getElem_cons_succ, Act.put, List.setIfInBounds_toArray, List.set_cons_zero, List.set_cons_succ]
  refine wpAnyH_take (i := 16) (v := ?_) rfl (by kernel_rfl) (by kernel_rfl) (by kernel_rfl) (fun _ _ _ h => h) (Or.inl ⟨by rfl, ?_⟩) (by assumption) ?_
  rotate_left
  · (intro w hSw; (try dsimp only at hSw); go_simp; first | done | with_reducible rfl)
  try simp only [List.getElem_toArray, List.getElem_cons_zero, List.getElem_cons_succ, Act.put, List.setIfInBounds_toArray, List.set_cons_zero, List.set_cons_succ]
  refine wpAnyH_take (i := 18) (v := ?_) rfl (by kernel_rfl) (by kernel_rfl) (by kernel_rfl) (fun _ _ _ h => h) (Or.inl ⟨by rfl, ?_⟩) (by assumption) ?_
  rotate_left
  · (intro w hSw; (try dsimp only at hSw); go_simp; first | done | with_reducible rfl)
  try simp only [List.getElem_toArray, List.getElem_cons_zero, List.getElem_cons_succ, Act.put, List.setIfInBounds_toArray, List.set_cons_zero, List.set_cons_succ]
  refine wpAnyH_take (i := 19) (v := ?_) rfl (by kernel_rfl) (by kernel_rfl) (by kernel_rfl) (fun _ _ _ h => h) (Or.inl ⟨by rfl, ?_⟩) (by assumption) ?_
  rotate_left
  · (intro w hSw; (try dsimp only at hSw); go_simp; first | done | with_reducible rfl)
  try simp only [List.getElem_toArray, List.getElem_cons_zero, List.getElem_cons_succ, Act.put, List.setIfInBounds_toArray, List.set_cons_zero, List.set_cons_succ]
  refine wpAnyH_take (i := 21) (v := ?_) rfl (by kernel_rfl) (by kernel_rfl) (by kernel_rfl) (fun _ _ _ h => h) (Or.inl ⟨by rfl, ?_⟩) (by assumption) ?_
  rotate_left
  · (intro w hSw; (try dsimp only at hSw); go_simp; first | done | with_reducible rfl)
  try simp only [List.getElem_toArray, List.getElem_cons_zero, List.getElem_cons_succ, Act.put, List.setIfInBounds_toArray, List.set_cons_zero, List.set_cons_succ]
  refine wpAnyH_take (i := 22) (v := ?_) rfl (by kernel_rfl) (by kernel_rfl) (by kernel_rfl) (fun _ _ _ h => h) (Or.inl ⟨by rfl, ?_⟩) (by assumption) ?_
  rotate_left
  · (intro w hSw; (try dsimp only at hSw); go_simp; first | done | with_reducible rfl)
  try simp only [List.getElem_toArray, List.getElem_cons_zero, List.getElem_cons_succ, Act.put, List.setIfInBounds_toArray, List.set_cons_zero, List.set_cons_succ]
  refine wpAnyH_ready (rs := [15]) (by kernel_rfl) (by simp) ?_
  refine AllReadyH.cons rfl (fun K hK => ?_) AllReadyH.nil
  go_simp
  (first
        | (go_at_call 66
           ((with_reducible refine (poly_add2 x y LP.out LQ.out (by omega) (by omega) (by omega) (by omega)).mono ?_))
           rintro e W14 ⟨V14, rfl, sm, u14⟩
           replace FZ := FZ.up u14
           replace x := x.up u14
           replace y := y.up u14
           replace p := p.up u14
           try (replace e1 := e1.up u14)
           try (replace e2 := e2.up u14)
           try (replace e3 := e3.up u14)
           try (replace e4 := e4.up u14)
           try (replace sm := sm.up u14)
           try (replace e5 := e5.up u14)
           try (replace e6 := e6.up u14)
           try (replace e7 := e7.up u14)
           try (replace e8 := e8.up u14)
           replace b0 := b0.up u14
           replace x1 := x1.up u14
           replace UP := UP.trans u14
           clear b0_0 b0_1 b0_2 x1_0 x1_1 x1_2
           obtain ⟨b0_0, b0_1, b0_2⟩ := b0.c3
           obtain ⟨x1_0, x1_1, x1_2⟩ := x1.c3
           clear u14))
  try go_wp2_with fail
  try clear hHeld
  refine hK.out _ _ ?_ (fun hHeld => ?_)
  · (first | with_reducible exact ⟨UP, x1_0, x1_1, x1_2⟩ | with_reducible exact ⟨UP, x1_0, x1_1, x1_2⟩ | with_reducible exact ⟨(UP.alloc_drew _), (cell_alloc_drew x1_0), (cell_alloc_drew x1_1), (cell_alloc_drew x1_2)⟩ | with_reducible exact ⟨(UP.alloc2_drew _ _), (cell_alloc2_drew x1_0), (cell_alloc2_drew x1_1), (cell_alloc2_drew x1_2)⟩ | (simp only [← World.setCell_drew]; first | with_reducible exact ⟨UP, x1_0, x1_1, x1_2⟩) | go_keep)
  clear hK K
  try simp only [List.getElem_toArray, List.getElem_cons_zero, List.getElem_cons_succ, Act.put, List.setIfInBounds_toArray, List.set_cons_zero, List.set_cons_succ]
  refine wpAnyH_ready (rs := [17]) (by kernel_rfl) (by simp) ?_
  refine AllReadyH.cons rfl (fun K hK => ?_) AllReadyH.nil
  go_simp
  (first
        | (go_at_call 65
           ((with_reducible refine (poly_eval FZ sm.fs.sq (by have := HLS.out; omega) (by have := HLS.out; omega) (by omega) (by omega)).mono ?_))
           rintro e W15 ⟨V15, rfl, e5, u15⟩
           replace FZ := FZ.up u15
           replace x := x.up u15
           replace y := y.up u15
           replace p := p.up u15
           try (replace e1 := e1.up u15)
           try (replace e2 := e2.up u15)
           try (replace e3 := e3.up u15)
           try (replace e4 := e4.up u15)
           try (replace sm := sm.up u15)
           try (replace e5 := e5.up u15)
           try (replace e6 := e6.up u15)
           try (replace e7 := e7.up u15)
           try (replace e8 := e8.up u15)
           replace b0 := b0.up u15
           replace x1 := x1.up u15
           replace UP := UP.trans u15
           clear b0_0 b0_1 b0_2 x1_0 x1_1 x1_2
           obtain ⟨b0_0, b0_1, b0_2⟩ := b0.c3
           obtain ⟨x1_0, x1_1, x1_2⟩ := x1.c3
           clear u15
           rw [HE2.out] at e5))
  try go_wp2_with fail
  try clear hHeld
  refine hK.out _ _ ?_ (fun hHeld => ?_)
  · (first | with_reducible exact ⟨UP, x1_0, x1_1, x1_2⟩ | with_reducible exact ⟨UP, x1_0, x1_1, x1_2⟩ | with_reducible exact ⟨(UP.alloc_drew _), (cell_alloc_drew x1_0), (cell_alloc_drew x1_1), (cell_alloc_drew x1_2)⟩ | with_reducible exact ⟨(UP.alloc2_drew _ _), (cell_alloc2_drew x1_0), (cell_alloc2_drew x1_1), (cell_alloc2_drew x1_2)⟩ | (simp only [← World.setCell_drew]; first | with_reducible exact ⟨UP, x1_0, x1_1, x1_2⟩) | go_keep)
  clear hK K
  try simp only [List.getElem_toArray, List.getElem_cons_zero, List.getElem_cons_succ, Act.put, List.setIfInBounds_toArray, List.set_cons_zero, List.set_cons_succ]
  refine wpAnyH_ready (rs := [20]) (by kernel_rfl) (by simp) ?_
  refine AllReadyH.cons rfl (fun K hK => ?_) AllReadyH.nil
  go_simp
  (first
        | (go_at_call 65
           ((with_reducible refine (poly_eval FZ x.sq (by omega) (by omega) (by omega) (by omega)).mono ?_))
           rintro e W16 ⟨V16, rfl, e6, u16⟩
           replace FZ := FZ.up u16
           replace x := x.up u16
           replace y := y.up u16
           replace p := p.up u16
           try (replace e1 := e1.up u16)
           try (replace e2 := e2.up u16)
           try (replace e3 := e3.up u16)
           try (replace e4 := e4.up u16)
           try (replace sm := sm.up u16)
           try (replace e5 := e5.up u16)
           try (replace e6 := e6.up u16)
           try (replace e7 := e7.up u16)
           try (replace e8 := e8.up u16)
           replace b0 := b0.up u16
           replace x1 := x1.up u16
           replace UP := UP.trans u16
           clear b0_0 b0_1 b0_2 x1_0 x1_1 x1_2
           obtain ⟨b0_0, b0_1, b0_2⟩ := b0.c3
           obtain ⟨x1_0, x1_1, x1_2⟩ := x1.c3
           clear u16
           rw [HEX.out] at e6))
  try go_wp2_with fail
  try clear hHeld
  refine hK.out _ _ ?_ (fun hHeld => ?_)
  · (first | with_reducible exact ⟨UP, x1_0, x1_1, x1_2⟩ | with_reducible exact ⟨UP, x1_0, x1_1, x1_2⟩ | with_reducible exact ⟨(UP.alloc_drew _), (cell_alloc_drew x1_0), (cell_alloc_drew x1_1), (cell_alloc_drew x1_2)⟩ | with_reducible exact ⟨(UP.alloc2_drew _ _), (cell_alloc2_drew x1_0), (cell_alloc2_drew x1_1), (cell_alloc2_drew x1_2)⟩ | (simp only [← World.setCell_drew]; first | with_reducible exact ⟨UP, x1_0, x1_1, x1_2⟩) | go_keep)
  clear hK K
  try simp only [List.getElem_toArray, List.getElem_cons_zero, List.getElem_cons_succ, Act.put, List.setIfInBounds_toArray, List.set_cons_zero, List.set_cons_succ]
  refine wpAnyH_ready (rs := [23]) (by kernel_rfl) (by simp) ?_
  refine AllReadyH.cons rfl (fun K hK => ?_) AllReadyH.nil
  go_simp
  (first
        | (go_at_call 65
           ((with_reducible refine (poly_eval FZ y.sq (by omega) (by omega) (by omega) (by omega)).mono ?_))
           rintro e W17 ⟨V17, rfl, e7, u17⟩
           replace FZ := FZ.up u17
           replace x := x.up u17
           replace y := y.up u17
           replace p := p.up u17
           try (replace e1 := e1.up u17)
           try (replace e2 := e2.up u17)
           try (replace e3 := e3.up u17)
           try (replace e4 := e4.up u17)
           try (replace sm := sm.up u17)
           try (replace e5 := e5.up u17)
           try (replace e6 := e6.up u17)
           try (replace e7 := e7.up u17)
           try (replace e8 := e8.up u17)
           replace b0 := b0.up u17
           replace x1 := x1.up u17
           replace UP := UP.trans u17
           clear b0_0 b0_1 b0_2 x1_0 x1_1 x1_2
           obtain ⟨b0_0, b0_1, b0_2⟩ := b0.c3
           obtain ⟨x1_0, x1_1, x1_2⟩ := x1.c3
           clear u17
           rw [HEY.out] at e7))
  try go_wp2_with fail
  try clear hHeld
  refine hK.out _ _ ?_ (fun hHeld => ?_)
  · (first | with_reducible exact ⟨UP, x1_0, x1_1, x1_2⟩ | with_reducible exact ⟨UP, x1_0, x1_1, x1_2⟩ | with_reducible exact ⟨(UP.alloc_drew _), (cell_alloc_drew x1_0), (cell_alloc_drew x1_1), (cell_alloc_drew x1_2)⟩ | with_reducible exact ⟨(UP.alloc2_drew _ _), (cell_alloc2_drew x1_0), (cell_alloc2_drew x1_1), (cell_alloc2_drew x1_2)⟩ | (simp only [← World.setCell_drew]; first | with_reducible exact ⟨UP, x1_0, x1_1, x1_2⟩) | go_keep)
  clear hK K
  try simp only [List.getElem_toArray, List.getElem_cons_zero, List.getElem_cons_succ, Act.put, List.setIfInBounds_toArray, List.set_cons_zero, List.set_cons_succ]
  refine wpAnyH_ready (rs := [24]) (by kernel_rfl) (by simp) ?_
  refine AllReadyH.cons rfl (fun K hK => ?_) AllReadyH.nil
  go_simp
  (first
        | (go_at_call 47
           ((with_reducible refine (frac_add (e6.fr LEX) (e7.fr LEY) (by omega) (by omega)).mono ?_))
           rintro e W18 ⟨V18, rfl, e8, u18⟩
           replace FZ := FZ.up u18
           replace x := x.up u18
           replace y := y.up u18
           replace p := p.up u18
           try (replace e1 := e1.up u18)
           try (replace e2 := e2.up u18)
           try (replace e3 := e3.up u18)
           try (replace e4 := e4.up u18)
           try (replace sm := sm.up u18)
           try (replace e5 := e5.up u18)
           try (replace e6 := e6.up u18)
           try (replace e7 := e7.up u18)
           try (replace e8 := e8.up u18)
           replace b0 := b0.up u18
           replace x1 := x1.up u18
           replace UP := UP.trans u18
           clear b0_0 b0_1 b0_2 x1_0 x1_1 x1_2
           obtain ⟨b0_0, b0_1, b0_2⟩ := b0.c3
           obtain ⟨x1_0, x1_1, x1_2⟩ := x1.c3
           clear u18
           rw [HES.out] at e8))
  try go_wp2_with fail
  try clear hHeld
  refine hK.out _ _ ?_ (fun hHeld => ?_)
  · (first | with_reducible exact ⟨UP, x1_0, x1_1, x1_2⟩ | with_reducible exact ⟨UP, x1_0, x1_1, x1_2⟩ | with_reducible exact ⟨(UP.alloc_drew _), (cell_alloc_drew x1_0), (cell_alloc_drew x1_1), (cell_alloc_drew x1_2)⟩ | with_reducible exact ⟨(UP.alloc2_drew _ _), (cell_alloc2_drew x1_0), (cell_alloc2_drew x1_1), (cell_alloc2_drew x1_2)⟩ | (simp only [← World.setCell_drew]; first | with_reducible exact ⟨UP, x1_0, x1_1, x1_2⟩) | go_keep)
  clear hK K
  try simp only [List.getElem_toArray, List.getElem_cons_zero, List.getElem_cons_succ, Act.put, List.setIfInBounds_toArray, List.set_cons_zero, List.set_cons_succ]
  refine wpAnyH_ready (rs := [25]) (by kernel_rfl) (by simp) ?_
  refine AllReadyH.cons rfl (fun K hK => ?_) AllReadyH.nil
  go_simp
  (first
        | (go_at_call 54
           ((with_reducible refine (frac_same (e5.fr LES) (e8.fr LES) (by omega) (by omega)).mono ?_))
           rintro e W19 ⟨rfl, u19⟩
           replace FZ := FZ.up u19
           replace x := x.up u19
           replace y := y.up u19
           replace p := p.up u19
           try (replace e1 := e1.up u19)
           try (replace e2 := e2.up u19)
           try (replace e3 := e3.up u19)
           try (replace e4 := e4.up u19)
           try (replace sm := sm.up u19)
           try (replace e5 := e5.up u19)
           try (replace e6 := e6.up u19)
           try (replace e7 := e7.up u19)
           try (replace e8 := e8.up u19)
           replace b0 := b0.up u19
           replace x1 := x1.up u19
           replace UP := UP.trans u19
           clear b0_0 b0_1 b0_2 x1_0 x1_1 x1_2
           obtain ⟨b0_0, b0_1, b0_2⟩ := b0.c3
           obtain ⟨x1_0, x1_1, x1_2⟩ := x1.c3
           clear u19
           rw [show decide (ES = ES) = true from decide_eq_true rfl]))
  try go_wp2_with fail
  try clear hHeld
  refine hK.out _ _ ?_ (fun hHeld => ?_)
  · (first | with_reducible exact ⟨UP, x1_0, x1_1, x1_2⟩ | with_reducible exact ⟨UP, x1_0, x1_1, x1_2⟩ | with_reducible exact ⟨(UP.alloc_drew _), (cell_alloc_drew x1_0), (cell_alloc_drew x1_1), (cell_alloc_drew x1_2)⟩ | with_reducible exact ⟨(UP.alloc2_drew _ _), (cell_alloc2_drew x1_0), (cell_alloc2_drew x1_1), (cell_alloc2_drew x1_2)⟩ | (simp only [← World.setCell_drew]; first | with_reducible exact ⟨UP, x1_0, x1_1, x1_2⟩) | go_keep)
  clear hK K
  try simp only [List.getElem_toArray, List.getElem_cons_zero, List.getElem_cons_succ, Act.put, List.setIfInBounds_toArray, List.set_cons_zero, List.set_cons_succ]
  refine wpAnyH_take (i := 26) (v := ?_) rfl (by kernel_rfl) (by kernel_rfl) (by kernel_rfl) (fun _ _ _ h => h) (Or.inl ⟨by rfl, ?_⟩) (by assumption) ?_
  rotate_left
  · (intro w hSw; (try dsimp only at hSw); go_simp; first | done | with_reducible rfl)
  try simp only [List.getElem_toArray, List.getElem_cons_zero, List.getElem_cons_succ, Act.put, List.setIfInBounds_toArray, List.set_cons_zero, List.set_cons_succ]
  refine wpAnyH_take (i := 27) (v := ?_) rfl (by kernel_rfl) (by kernel_rfl) (by kernel_rfl) (fun _ _ _ h => h) (Or.inl ⟨by rfl, ?_⟩) (by assumption) ?_
  rotate_left
  · (intro w hSw; (try dsimp only at hSw); go_simp; first | done | with_reducible rfl)
  try simp only [List.getElem_toArray, List.getElem_cons_zero, List.getElem_cons_succ, Act.put, List.setIfInBounds_toArray, List.set_cons_zero, List.set_cons_succ]
  refine wpAnyH_done (by kernel_rfl) ?_ _
  refine NoPanic.normal ?_
  clear e1 e2 e3 e4 e5 e6 e7 e8 sm
  go_wp2_with fail
  ((with_reducible refine (poly_diff2 p LM.out (by have := HLM.out; omega) (by omega)).mono ?_))
  rintro e W20 ⟨V20, rfl, d1, u20⟩
  replace FZ := FZ.up u20
  replace x := x.up u20
  replace y := y.up u20
  replace p := p.up u20
  replace b0 := b0.up u20
  replace x1 := x1.up u20
  replace UP := UP.trans u20
  clear b0_0 b0_1 b0_2 x1_0 x1_1 x1_2
  obtain ⟨b0_0, b0_1, b0_2⟩ := b0.c3
  obtain ⟨x1_0, x1_1, x1_2⟩ := x1.c3
  clear u20
  go_wp2_with fail
  ((with_reducible refine (poly_diff2 x LP.out (by omega) (by omega)).mono ?_))
  rintro e W21 ⟨V21, rfl, d2, u21⟩
  replace FZ := FZ.up u21
  replace x := x.up u21
  replace y := y.up u21
  replace p := p.up u21
  replace d1 := d1.up u21
  replace b0 := b0.up u21
  replace x1 := x1.up u21
  replace UP := UP.trans u21
  clear b0_0 b0_1 b0_2 x1_0 x1_1 x1_2
  obtain ⟨b0_0, b0_1, b0_2⟩ := b0.c3
  obtain ⟨x1_0, x1_1, x1_2⟩ := x1.c3
  clear u21
  go_wp2_with fail
  ((with_reducible refine (poly_mul2 d2.fs y LD1.out LQ.out (by have := HLD1.out; omega) (by omega) (by omega) (by omega) (by omega)).mono ?_))
  rintro e W22 ⟨V22, rfl, m1, u22⟩
  replace FZ := FZ.up u22
  replace x := x.up u22
  replace y := y.up u22
  replace p := p.up u22
  replace d1 := d1.up u22
  replace d2 := d2.up u22
  replace b0 := b0.up u22
  replace x1 := x1.up u22
  replace UP := UP.trans u22
  clear b0_0 b0_1 b0_2 x1_0 x1_1 x1_2
  obtain ⟨b0_0, b0_1, b0_2⟩ := b0.c3
  obtain ⟨x1_0, x1_1, x1_2⟩ := x1.c3
  clear u22
  go_wp2_with fail
  ((with_reducible refine (poly_diff2 y LQ.out (by omega) (by omega)).mono ?_))
  rintro e W23 ⟨V23, rfl, d3, u23⟩
  replace FZ := FZ.up u23
  replace x := x.up u23
  replace y := y.up u23
  replace p := p.up u23
  replace d1 := d1.up u23
  replace d2 := d2.up u23
  replace m1 := m1.up u23
  replace b0 := b0.up u23
  replace x1 := x1.up u23
  replace UP := UP.trans u23
  clear b0_0 b0_1 b0_2 x1_0 x1_1 x1_2
  obtain ⟨b0_0, b0_1, b0_2⟩ := b0.c3
  obtain ⟨x1_0, x1_1, x1_2⟩ := x1.c3
  clear u23
  go_wp2_with fail
  ((with_reducible refine (poly_mul2 x d3.fs LP.out LD2.out (by omega) (by have := HLD2.out; omega) (by omega) (by omega) (by omega)).mono ?_))
  rintro e W24 ⟨V24, rfl, m2, u24⟩
  replace FZ := FZ.up u24
  replace x := x.up u24
  replace y := y.up u24
  replace p := p.up u24
  replace d1 := d1.up u24
  replace d2 := d2.up u24
  replace m1 := m1.up u24
  replace d3 := d3.up u24
  replace b0 := b0.up u24
  replace x1 := x1.up u24
  replace UP := UP.trans u24
  clear b0_0 b0_1 b0_2 x1_0 x1_1 x1_2
  obtain ⟨b0_0, b0_1, b0_2⟩ := b0.c3
  obtain ⟨x1_0, x1_1, x1_2⟩ := x1.c3
  clear u24
  go_wp2_with fail
  ((with_reducible refine (poly_add2 m1.fs m2.fs LM1.out LM2.out (by have := HLM1.out; omega) (by have := HLM2.out; omega) (by omega) (by omega)).mono ?_))
  rintro e W25 ⟨V25, rfl, sa, u25⟩
  replace FZ := FZ.up u25
  replace x := x.up u25
  replace y := y.up u25
  replace p := p.up u25
  replace d1 := d1.up u25
  replace d2 := d2.up u25
  replace m1 := m1.up u25
  replace d3 := d3.up u25
  replace m2 := m2.up u25
  replace b0 := b0.up u25
  replace x1 := x1.up u25
  replace UP := UP.trans u25
  clear b0_0 b0_1 b0_2 x1_0 x1_1 x1_2
  obtain ⟨b0_0, b0_1, b0_2⟩ := b0.c3
  obtain ⟨x1_0, x1_1, x1_2⟩ := x1.c3
  clear u25
  go_wp2_with fail
  ((with_reducible refine (poly_same (d1.fs.mono (k := 1000) (by omega)).sq (sa.fs.mono (k := 1000) (by omega)).sq (by have := HLDM.out; omega) (by have := HLA.out; omega) (by omega)).mono ?_))
  rintro e W26 ⟨rfl, u26⟩
  replace FZ := FZ.up u26
  replace x := x.up u26
  replace y := y.up u26
  replace p := p.up u26
  replace d1 := d1.up u26
  replace d2 := d2.up u26
  replace m1 := m1.up u26
  replace d3 := d3.up u26
  replace m2 := m2.up u26
  replace sa := sa.up u26
  replace b0 := b0.up u26
  replace x1 := x1.up u26
  replace UP := UP.trans u26
  clear b0_0 b0_1 b0_2 x1_0 x1_1 x1_2
  obtain ⟨b0_0, b0_1, b0_2⟩ := b0.c3
  obtain ⟨x1_0, x1_1, x1_2⟩ := x1.c3
  clear u26
  rw [HLB.out]
  go_wp2_with fail
  ((with_reducible refine (works14 _).mono ?_))
  rintro e W27 ⟨rfl, u27⟩
  replace FZ := FZ.up u27
  replace x := x.up u27
  replace y := y.up u27
  replace p := p.up u27
  replace d1 := d1.up u27
  replace d2 := d2.up u27
  replace m1 := m1.up u27
  replace d3 := d3.up u27
  replace m2 := m2.up u27
  replace sa := sa.up u27
  replace b0 := b0.up u27
  replace x1 := x1.up u27
  replace UP := UP.trans u27
  clear b0_0 b0_1 b0_2 x1_0 x1_1 x1_2
  obtain ⟨b0_0, b0_1, b0_2⟩ := b0.c3
  obtain ⟨x1_0, x1_1, x1_2⟩ := x1.c3
  clear u27
  go_wp2
  go_ret
  exact ⟨rfl, UP⟩
end Go.Proofs.Ytmmcffceeahemaa
