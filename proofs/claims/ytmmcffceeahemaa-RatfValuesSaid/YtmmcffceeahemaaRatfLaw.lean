/-
  Layer 15: what the statements are made of: turned over, too long? And what comes in, read.
-/
import Derived.Test.YtmmcffceeahemaaRatf4
import Derived.Test.YtmmcffceeahemaaFracTo
import Derived.Deep.Strs
set_option linter.unusedVariables false
set_option linter.unusedSimpArgs false
namespace Go.Proofs.Ytmmcffceeahemaa
open Go.RowKit

/-- A row of the call's own, in any spelling, that stands alone. -/
def BRow (k : Nat) (w : World) (v : Value) (qs : List Rat) : Prop := OwnQ (Frk k) 69 0 w v qs
theorem BRow.up {k : Nat} {w w' : World} {v : Value} {qs : List Rat} (h : BRow k w v qs) (hu : Up w w') : BRow k w' v qs := OwnQ.up (kp_fr k) h hu
theorem BRow.form {k : Nat} {w : World} {v : Value} {qs : List Rat} (h : BRow k w v qs) : ∃ A c, v = .slice A qs.length c := OwnQ.form h
theorem BRow.fs {k : Nat} {w : World} {v : Value} {qs : List Rat} (h : BRow k w v qs) : FSq k w v qs := OwnQ.sq h
theorem BRow.stored {k : Nat} {w : World} {v x : Value} {qs : List Rat} {S : TypeId} {g i : Nat} {vs : List Value} (h : BRow k w v qs) (hb : Bx S w g vs) (hne : 69 ≠ S) (hk : Kw w (w.setCell ⟨g, i, none⟩ x)) : BRow k (w.setCell ⟨g, i, none⟩ x) v qs :=
 OwnQ.kept (kp_fr k) h hk (row := some g) ⟨rfl, rfl, rfl, by simp [World.setCell], fun j hj hj2 => Below.heap_setCell _ _ _ _ (by simp; exact fun e => hj2 (by rw [e]))⟩ (.inr (ownq_not_bx h hb hne))
theorem BRow.ne {k : Nat} {w : World} {v : Value} {qs : List Rat} (h : BRow k w v qs) : v.ownBlock ≠ some w.heap.size := fun e => by have := (OwnQ.lt h _ e).2; omega
theorem BRow.stored2 {k : Nat} {w : World} {v x : Value} {qs : List Rat} {g i : Nat} (h : BRow k w v qs) (hne : v.ownBlock ≠ some g) (hk : Kw w (w.setCell ⟨g, i, none⟩ x)) : BRow k (w.setCell ⟨g, i, none⟩ x) v qs :=
 OwnQ.kept (kp_fr k) h hk (row := some g) ⟨rfl, rfl, rfl, by simp [World.setCell], fun j hj hj2 => Below.heap_setCell _ _ _ _ (by simp; exact fun e => hj2 (by rw [e]))⟩ (.inr hne)
theorem ne_bool {q : Rat} (h : q ≠ 0) : (!decide (q = 0)) = true := by rw [decide_eq_false h]; rfl
theorem bool_ne {q : Rat} (h : (!decide (q = 0)) = true) : q ≠ 0 := fun e => by rw [decide_eq_true e] at h; cases h
def RetB3 (k : Nat) (qs : List Rat) (w : World) (e : Ending) (w' : World) : Prop := ∃ v, e = .returned v ∧ BRow k w' v qs ∧ Up w w'
theorem law_to11b {k : Nat} {v : Value} {ps : List Rat} {w : World} (h : FSq k w v ps) (hl : ps.length ≤ 10000) : Calls Try.prog 28 #[v] w (RetB3 k ps w) := (law_to11 (kp_fr k) h.sq (by omega)).mono fun e w' ⟨V, h1, h2, h3⟩ => ⟨V, h1, OwnQ.weaken h2 (Nat.zero_le _), h3⟩
/-- A function comes back, its rows given, in any spelling. -/
def RetFB (k : Nat) (p q : List Rat) (w : World) (e : Ending) (w' : World) : Prop := ∃ V U, e = .returned (.agg #[V, U]) ∧ BRow k w' V p ∧ BRow k w' U q ∧ Up w w'
set_option maxRecDepth 100000 in
set_option maxHeartbeats 1600000 in
theorem law_to15 {v u : Value} {p q : List Rat} {k : Nat} {w : World} (h : FSq k w v p) (h2 : FSq k w u q) (hl : p.length ≤ 1000) (hl2 : q.length ≤ 1000) : Calls Try.prog 82 #[.agg #[v, u]] w (RetFB k p q w) := by
 obtain ⟨A, c, rfl⟩ := h.form
 obtain ⟨B, d, rfl⟩ := h2.form
 have UP : Up w ((w.alloc (.cells #[.slice A p.length c, .slice B q.length d] 117)).alloc (.cells #[.slice none 0 0, .slice none 0 0] 120)) := ((Up.refl w).alloc _).alloc _
 obtain ⟨b0, r0⟩ := bx_two 117 120 w [.slice A p.length c, .slice B q.length d] [.slice none 0 0, .slice none 0 0]
 go_enter Try.func82, Try.ntmps82
 go_wp2_with fail
 generalize ((w.alloc (.cells #[.slice A p.length c, .slice B q.length d] 117)).alloc (.cells #[.slice none 0 0, .slice none 0 0] 120)) = W at *
 replace h := h.up UP
 replace h2 := h2.up UP
 obtain ⟨b0_0, b0_1⟩ := b0.c2
 obtain ⟨r0_0, r0_1⟩ := r0.c2
 have r0_f0 := r0.free 0
 have r0_f1 := r0.free 1
 replace h := h.up (Up.refl W).drew
 replace h2 := h2.up (Up.refl W).drew
 replace b0 := b0.up (Up.refl W).drew
 replace r0 := r0.up (Up.refl W).drew
 replace UP := UP.trans (Up.refl W).drew
 clear b0_0 b0_1
 obtain ⟨b0_0, b0_1⟩ := b0.c2
 obtain ⟨r0_0, r0_1⟩ := r0.c2
 have r0_f0 := r0.free 0
 have r0_f1 := r0.free 1
 refine wp_region_noPanic ?_
 refine wp_region_held_drew (S := fun w' => Up w w' ∧ w'.cell? ⟨w.heap.size, 0, none⟩ = some (.slice A p.length c) ∧ w'.cell? ⟨w.heap.size, 1, none⟩ = some (.slice B q.length d)) (by kernel_rfl) ?_ (fun hHeld => ?_)
 · with_reducible exact ⟨UP, b0_0, b0_1⟩
 refine wpAnyH_take (i := 0) (v := ?_) rfl (by kernel_rfl) (by kernel_rfl) (by kernel_rfl) (fun _ _ _ h => h) (Or.inl ⟨by rfl, ?_⟩) (by assumption) ?_
 rotate_left
 · (intro w hSw; (try dsimp only at hSw); go_simp; first | done | with_reducible rfl)
 try simp only [List.getElem_toArray, List.getElem_cons_zero, List.getElem_cons_succ, Act.put, List.setIfInBounds_toArray, List.set_cons_zero, List.set_cons_succ]
 refine wpAnyH_take (i := 1) (v := ?_) rfl (by kernel_rfl) (by kernel_rfl) (by kernel_rfl) (fun _ _ _ h => h) (Or.inl ⟨by rfl, ?_⟩) (by assumption) ?_
 rotate_left
 · (intro w hSw; (try dsimp only at hSw); go_simp; first | done | with_reducible rfl)
 try simp only [List.getElem_toArray, List.getElem_cons_zero, List.getElem_cons_succ, Act.put, List.setIfInBounds_toArray, List.set_cons_zero, List.set_cons_succ]
 refine wpAnyH_take (i := 3) (v := ?_) rfl (by kernel_rfl) (by kernel_rfl) (by kernel_rfl) (fun _ _ _ h => h) (Or.inl ⟨by rfl, ?_⟩) (by assumption) ?_
 rotate_left
 · (intro w hSw; (try dsimp only at hSw); go_simp; first | done | with_reducible rfl)
 try simp only [List.getElem_toArray, List.getElem_cons_zero, List.getElem_cons_succ, Act.put, List.setIfInBounds_toArray, List.set_cons_zero, List.set_cons_succ]
 refine wpAnyH_take (i := 4) (v := ?_) rfl (by kernel_rfl) (by kernel_rfl) (by kernel_rfl) (fun _ _ _ h => h) (Or.inl ⟨by rfl, ?_⟩) (by assumption) ?_
 rotate_left
 · (intro w hSw; (try dsimp only at hSw); go_simp; first | done | with_reducible rfl)
 try simp only [List.getElem_toArray, List.getElem_cons_zero, List.getElem_cons_succ, Act.put, List.setIfInBounds_toArray, List.set_cons_zero, List.set_cons_succ]
 refine wpAnyH_ready (rs := [2]) (by kernel_rfl) (by simp) ?_
 refine AllReadyH.cons rfl (fun K hK => ?_) AllReadyH.nil
 go_simp
 (first
   | (go_at_call 28
      ((with_reducible refine (law_to11b h (by omega)).mono ?_))
      rintro e W1 ⟨V1, rfl, x, u1⟩
      obtain ⟨Ax, cx, rfl⟩ := x.form
      replace h := h.up u1
      replace h2 := h2.up u1
      try (replace x := x.up u1)
      try (replace y := y.up u1)
      replace b0 := b0.up u1
      replace r0 := r0.up u1
      replace UP := UP.trans u1
      clear b0_0 b0_1 r0_0 r0_1
      obtain ⟨b0_0, b0_1⟩ := b0.c2
      obtain ⟨r0_0, r0_1⟩ := r0.c2
      replace r0_f0 := r0.free 0
      replace r0_f1 := r0.free 1
      clear u1))
 try go_wp2_with fail
 try clear hHeld
 refine hK.out _ _ ?_ (fun hHeld => ?_)
 · with_reducible exact ⟨UP, b0_0, b0_1⟩
 clear hK K
 try simp only [List.getElem_toArray, List.getElem_cons_zero, List.getElem_cons_succ, Act.put, List.setIfInBounds_toArray, List.set_cons_zero, List.set_cons_succ]
 refine wpAnyH_ready (rs := [5]) (by kernel_rfl) (by simp) ?_
 refine AllReadyH.cons rfl (fun K hK => ?_) AllReadyH.nil
 go_simp
 (first
   | (go_at_call 28
      ((with_reducible refine (law_to11b h2 (by omega)).mono ?_))
      rintro e W2 ⟨V2, rfl, y, u2⟩
      obtain ⟨Ay, cy, rfl⟩ := y.form
      replace h := h.up u2
      replace h2 := h2.up u2
      try (replace x := x.up u2)
      try (replace y := y.up u2)
      replace b0 := b0.up u2
      replace r0 := r0.up u2
      replace UP := UP.trans u2
      clear b0_0 b0_1 r0_0 r0_1
      obtain ⟨b0_0, b0_1⟩ := b0.c2
      obtain ⟨r0_0, r0_1⟩ := r0.c2
      replace r0_f0 := r0.free 0
      replace r0_f1 := r0.free 1
      clear u2))
 try go_wp2_with fail
 try clear hHeld
 refine hK.out _ _ ?_ (fun hHeld => ?_)
 · with_reducible exact ⟨UP, b0_0, b0_1⟩
 clear hK K
 try simp only [List.getElem_toArray, List.getElem_cons_zero, List.getElem_cons_succ, Act.put, List.setIfInBounds_toArray, List.set_cons_zero, List.set_cons_succ]
 refine wpAnyH_take (i := 6) (v := ?_) rfl (by kernel_rfl) (by kernel_rfl) (by kernel_rfl) (fun _ _ _ h => h) (Or.inl ⟨by rfl, ?_⟩) (by assumption) ?_
 rotate_left
 · (intro w hSw; (try dsimp only at hSw); go_simp; first | done | with_reducible rfl)
 try simp only [List.getElem_toArray, List.getElem_cons_zero, List.getElem_cons_succ, Act.put, List.setIfInBounds_toArray, List.set_cons_zero, List.set_cons_succ]
 refine wpAnyH_ready (rs := [7]) (by kernel_rfl) (by simp) ?_
 refine AllReadyH.cons rfl (fun K hK => ?_) AllReadyH.nil
 go_simp
 skip
 try go_wp2_with fail
 try clear hHeld
 refine hK.out _ _ ?_ (fun hHeld => ?_)
 · (first | with_reducible exact ⟨UP, b0_0, b0_1⟩ | with_reducible exact ⟨((UP.setCell (p := ⟨w.heap.size + 1, 0, none⟩) (by dsimp only; omega) _).setCell (p := ⟨w.heap.size + 1, 1, none⟩) (by dsimp only; omega) _), (cell_far_block (cell_far_block b0_0 (by dsimp only; omega)) (by dsimp only; omega)), (cell_far_block (cell_far_block b0_1 (by dsimp only; omega)) (by dsimp only; omega))⟩ | with_reducible exact ⟨(UP.alloc_drew _), (cell_alloc_drew b0_0), (cell_alloc_drew b0_1)⟩ | with_reducible exact ⟨(UP.alloc2_drew _ _), (cell_alloc2_drew b0_0), (cell_alloc2_drew b0_1)⟩ | (simp only [← World.setCell_drew]; first | with_reducible exact ⟨((UP.setCell (p := ⟨w.heap.size + 1, 0, none⟩) (by dsimp only; omega) _).setCell (p := ⟨w.heap.size + 1, 1, none⟩) (by dsimp only; omega) _), (cell_far_block (cell_far_block b0_0 (by dsimp only; omega)) (by dsimp only; omega)), (cell_far_block (cell_far_block b0_1 (by dsimp only; omega)) (by dsimp only; omega))⟩) | go_keep)
 clear hK K
 try simp only [List.getElem_toArray, List.getElem_cons_zero, List.getElem_cons_succ, Act.put, List.setIfInBounds_toArray, List.set_cons_zero, List.set_cons_succ]
 refine wpAnyH_done (by kernel_rfl) ?_ _
 refine NoPanic.normal ?_
 clear hHeld
 clear h h2
 have KW : Kw (W2) ((W2).setCell ⟨w.heap.size + 1, 0, none⟩ (.slice Ax p.length cx)) := Kw.store (c := (.slice none 0 0)) r0 rfl trivial _
 replace x := x.stored r0 (by decide) KW
 replace y := y.stored r0 (by decide) KW
 replace b0 := b0.far (p := ⟨w.heap.size + 1, 0, none⟩) (by dsimp only; omega) (.slice Ax p.length cx)
 replace r0 : Bx 120 ((W2).setCell ⟨w.heap.size + 1, 0, none⟩ (.slice Ax p.length cx)) (w.heap.size + 1) [.slice Ax p.length cx, .slice none 0 0] := r0.set 0 (.slice Ax p.length cx)
 replace UP := UP.setCell (p := ⟨w.heap.size + 1, 0, none⟩) (by dsimp only; omega) (.slice Ax p.length cx)
 have KW : Kw (((W2).setCell ⟨w.heap.size + 1, 0, none⟩ (.slice Ax p.length cx))) ((((W2).setCell ⟨w.heap.size + 1, 0, none⟩ (.slice Ax p.length cx))).setCell ⟨w.heap.size + 1, 1, none⟩ (.slice Ay q.length cy)) := Kw.store (c := (.slice none 0 0)) r0 rfl trivial _
 replace x := x.stored r0 (by decide) KW
 replace y := y.stored r0 (by decide) KW
 replace b0 := b0.far (p := ⟨w.heap.size + 1, 1, none⟩) (by dsimp only; omega) (.slice Ay q.length cy)
 replace r0 : Bx 120 ((((W2).setCell ⟨w.heap.size + 1, 0, none⟩ (.slice Ax p.length cx))).setCell ⟨w.heap.size + 1, 1, none⟩ (.slice Ay q.length cy)) (w.heap.size + 1) [.slice Ax p.length cx, .slice Ay q.length cy] := r0.set 1 (.slice Ay q.length cy)
 replace UP := UP.setCell (p := ⟨w.heap.size + 1, 1, none⟩) (by dsimp only; omega) (.slice Ay q.length cy)
 clear KW
 generalize ((((W2).setCell ⟨w.heap.size + 1, 0, none⟩ (.slice Ax p.length cx))).setCell ⟨w.heap.size + 1, 1, none⟩ (.slice Ay q.length cy)) = W3 at *
 clear b0_0 b0_1 r0_0 r0_1
 obtain ⟨b0_0, b0_1⟩ := b0.c2
 obtain ⟨r0_0, r0_1⟩ := r0.c2
 go_wp2_with fail
 exact bodyPost_ret (run_res_cell rfl rfl agg_fun size_fun r0 rfl) rfl ⟨_, _, rfl, x, y, UP⟩
set_option maxRecDepth 100000 in
set_option maxHeartbeats 1600000 in
theorem ref_long15 {v u : Value} {rs ts : List Raw} {w : World} (m k : Nat) {M K : Int} (hM : M = (m : Int)) (hK : K = (k : Int)) (h : RSq w v rs) (h2 : RSq w u ts) (hm : m ≤ 1000) (hk : k ≤ 1000) :
 Calls Try.prog 80 #[.agg #[v, u], .int .i64 M, .int .i64 K] w fun e w' => ∃ t, e = .returned (.bool t) ∧ Hid (t = false → (rs.length ≤ m ∧ ∀ r ∈ rs, r.few k) ∧ (ts.length ≤ m ∧ ∀ r ∈ ts, r.few k)) ∧ Up w w' := by
 subst hM hK
 obtain ⟨A, c, rfl⟩ := h.form
 obtain ⟨B, d, rfl⟩ := h2.form
 have UP : Up w (w.alloc (.cells #[.slice A rs.length c, .slice B ts.length d] 117)) := (Up.refl w).alloc _
 have b0 := Bx.new 117 w [.slice A rs.length c, .slice B ts.length d]
 go_enter Try.func80, Try.ntmps80
 go_wp2_with fail
 generalize (w.alloc (.cells #[.slice A rs.length c, .slice B ts.length d] 117)) = W at *
 replace h := h.up UP
 replace h2 := h2.up UP
 obtain ⟨b0_0, b0_1⟩ := b0.c2
 go_wp2_with fail
 ((with_reducible refine (ref_long11r m k h (by omega) (by omega)).mono ?_))
 rintro e W1 ⟨t1, rfl, ht1, u1⟩
 replace h := h.up u1
 replace h2 := h2.up u1
 replace b0 := b0.up u1
 replace UP := UP.trans u1
 clear b0_0 b0_1
 obtain ⟨b0_0, b0_1⟩ := b0.c2
 clear u1
 cases t1
 rotate_left
 · go_wp2
   go_ret
   exact ⟨true, rfl, Lib.hid (fun hh => by cases hh), UP⟩
 have g1 := Lib.hid (ht1.out rfl)
 clear ht1
 go_wp2_with fail
 ((with_reducible refine (ref_long11r m k h2 (by omega) (by omega)).mono ?_))
 rintro e W2 ⟨t2, rfl, ht2, u2⟩
 replace h := h.up u2
 replace h2 := h2.up u2
 replace b0 := b0.up u2
 replace UP := UP.trans u2
 clear b0_0 b0_1
 obtain ⟨b0_0, b0_1⟩ := b0.c2
 clear u2
 go_wp2
 go_ret
 have g2 := ht2.out
 exact ⟨t2, rfl, Lib.hid (fun hh => ⟨g1.out, g2 hh⟩), UP⟩
theorem ref_long_31 {v u : Value} {rs ts : List Raw} {w : World} (h : RSq w v rs) (h2 : RSq w u ts) :
 Calls Try.prog 80 #[.agg #[v, u], .int .i64 3, .int .i64 1] w fun e w' => ∃ t, e = .returned (.bool t) ∧ Hid (t = false → (rs.length ≤ 3 ∧ ∀ r ∈ rs, r.few 1) ∧ (ts.length ≤ 3 ∧ ∀ r ∈ ts, r.few 1)) ∧ Up w w' := ref_long15 3 1 rfl rfl h h2 (by omega) (by omega)
theorem ref_long9h {s : Bool} {A D : Option Addr} {l m : List Nat} {c d : Nat} {w : World} (k : Nat) {K : Int} (hK : K = (k : Int)) (hk : k ≤ 1000) : Calls Try.prog 35 #[.agg #[.bool s, .slice A l.length c, .slice D m.length d], .int .i64 K] w fun e w' => ∃ t, e = .returned (.bool t) ∧ Hid (t = false → l.length ≤ k ∧ m.length ≤ k) ∧ Up w w' := by
 subst hK
 by_cases h : (k : Int) < (l.length : Int) ∨ (k : Int) < (m.length : Int)
 · refine (ref_long9_yes h (by omega)).mono ?_
   rintro e w' ⟨rfl, u⟩
   exact ⟨true, rfl, Lib.hid (fun hh => by cases hh), u⟩
 · refine (ref_long9_no (by omega) (by omega) (by omega)).mono ?_
   rintro e w' ⟨rfl, u⟩
   exact ⟨false, rfl, Lib.hid (fun _ => ⟨by omega, by omega⟩), u⟩
/-! What comes in. -/
set_option maxRecDepth 100000
open Go.ChangeShapes Go.WideShapes Go.Deep in
theorem open_fun {H : Type} {enc : TypeId × Value → H} {W : World} {base : Nat} {v : Value} {d : DataW H} {p : List MemPlace} (hv : Value.okWide Try.prog W .any base 117 v) (h : DataW.Trod enc Try.prog W 0 (fun _ => true) true 117 v d p) : ∃ V U rs ts, v = .agg #[V, U] ∧ RSq W V rs ∧ RSq W U ts := by
 have cells : Try.prog.cellsOf 117 = 2 := by kernel_rfl
 simp only [Value.okWide, Try.underlying117] at hv
 obtain ⟨cs, rfl, hsz, _⟩ := hv
 rw [cells] at hsz
 obtain ⟨x0, x1, rfl⟩ : ∃ x0 x1, cs = #[x0, x1] := by
  match cs, hsz with
  | ⟨[x0, x1]⟩, _ => exact ⟨x0, x1, rfl⟩
 obtain ⟨fuel, hf⟩ := h
 obtain ⟨ys, n', _, _, hlen, hyl, hf⟩ := DataW.trod_struct Try.underlying117 hf
 have f0 : DataW.trod enc Try.prog W 0 (fun _ => true) true n' 43 (([x0, x1].drop 0).take (Try.prog.cellsOf 43)) = ys[0]? := hf 0 _ rfl
 have f1 : DataW.trod enc Try.prog W 0 (fun _ => true) true n' 43 (([x0, x1].drop 1).take (Try.prog.cellsOf 43)) = ys[1]? := hf 1 _ rfl
 have hy2 : ys.length = 2 := hyl
 rw [cells_fracs, List.getElem?_eq_getElem (by omega)] at f0 f1
 obtain ⟨rs, h0⟩ := raws_of_trod f0
 obtain ⟨ts, h1⟩ := raws_of_trod f1
 exact ⟨x0, x1, rs, ts, rfl, h0, h1⟩
end Go.Proofs.Ytmmcffceeahemaa
