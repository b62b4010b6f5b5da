/-
  Layer 15: what the statements are made of: turned over, too long? And what comes in, read.
-/
import Derived.Test.YtmmcffceeahemaaGreatZtRatf3
import Derived.Test.YtmmcffceeahemaaGreatZtSeqLaw
import Derived.Deep.Strs
import Derived.Test.YtmmcffceeahemaaGreatZtShort
set_option linter.unusedVariables false
set_option linter.unusedSimpArgs false
namespace Go.Proofs.YtmmcffceeahemaaGreat
open Go.RowKit
/-- A row of the call's own, in any spelling, that stands alone. -/
def BRow (k : Nat) (w : World) (v : Value) (qs : List Rat) : Prop := OwnQ (Frk k) 34 0 w v qs
theorem BRow.up {k : Nat} {w w' : World} {v : Value} {qs : List Rat} (h : BRow k w v qs) (hu : Up w w') : BRow k w' v qs := OwnQ.up (kp_fr k) h hu
instance BRow.lup {k : Nat} {w w' : World} {v : Value} {qs : List Rat} : Lu (Up w w') (BRow k w v qs) (BRow k w' v qs) := luM fun u h => h.up u
theorem BRow.form {k : Nat} {w : World} {v : Value} {qs : List Rat} (h : BRow k w v qs) : ∃ A c, v = .slice A qs.length c := OwnQ.form h
theorem BRow.fs {k : Nat} {w : World} {v : Value} {qs : List Rat} (h : BRow k w v qs) : FSq k w v qs := OwnQ.sq h
theorem BRow.stored {k : Nat} {w : World} {v x : Value} {qs : List Rat} {S : TypeId} {g i : Nat} {vs : List Value} (h : BRow k w v qs) (hb : Bx S w g vs) (hne : 34 ≠ S) (hk : Kw w (w.setCell ⟨g, i, none⟩ x)) : BRow k (w.setCell ⟨g, i, none⟩ x) v qs :=
 OwnQ.kept (kp_fr k) h hk (row := some g) ⟨rfl, rfl, rfl, by simp [World.setCell], fun j hj hj2 => Below.heap_setCell _ _ _ _ (by simp; exact fun e => hj2 (by rw [e]))⟩ (.inr (ownq_not_bx h hb hne))
theorem BRow.ne {k : Nat} {w : World} {v : Value} {qs : List Rat} (h : BRow k w v qs) : v.ownBlock ≠ some w.heap.size := fun e => by have := (OwnQ.lt h _ e).2; omega
theorem BRow.stored2 {k : Nat} {w : World} {v x : Value} {qs : List Rat} {g i : Nat} (h : BRow k w v qs) (hne : v.ownBlock ≠ some g) (hk : Kw w (w.setCell ⟨g, i, none⟩ x)) : BRow k (w.setCell ⟨g, i, none⟩ x) v qs :=
 OwnQ.kept (kp_fr k) h hk (row := some g) ⟨rfl, rfl, rfl, by simp [World.setCell], fun j hj hj2 => Below.heap_setCell _ _ _ _ (by simp; exact fun e => hj2 (by rw [e]))⟩ (.inr hne)
def RetB3 (k : Nat) (qs : List Rat) (w : World) (e : Ending) (w' : World) : Prop := ∃ v, e = .returned v ∧ BRow k w' v qs ∧ Up w w'
theorem law_to11b {k : Nat} {v : Value} {ps : List Rat} {w : World} (h : FSq k w v ps) (hl : ps.length ≤ 10000) : Calls Tryz.prog 25 #[v] w (RetB3 k ps w) := (law_to11 (kp_fr k) h.sq (by omega)).mono fun e w' ⟨V, h1, h2, h3⟩ => ⟨V, h1, OwnQ.weaken h2 (Nat.zero_le _), h3⟩
/-- A function comes back, its rows given, in any spelling. -/
def RetFB (k : Nat) (p q : List Rat) (w : World) (e : Ending) (w' : World) : Prop := ∃ V U, e = .returned (.agg #[V, U]) ∧ BRow k w' V p ∧ BRow k w' U q ∧ Up w w'
set_option maxRecDepth 100000 in
set_option maxHeartbeats 1600000 in
theorem law_to15 {v u : Value} {p q : List Rat} {k : Nat} {w : World} (h : FSq k w v p) (h2 : FSq k w u q) (hl : p.length ≤ 1000) (hl2 : q.length ≤ 1000) : Calls Tryz.prog 62 #[.agg #[v, u]] w (RetFB k p q w) := by
 obtain ⟨A, c, rfl⟩ := h.form
 obtain ⟨B, d, rfl⟩ := h2.form
 have UP : Up w ((w.alloc (.cells #[.slice A p.length c, .slice B q.length d] 80)).alloc (.cells #[.slice none 0 0, .slice none 0 0] 84)) := ((Up.refl w).alloc _).alloc _
 obtain ⟨b0, r0⟩ := bx_two 80 84 w [.slice A p.length c, .slice B q.length d] [.slice none 0 0, .slice none 0 0]
 go_enter Tryz.func62, Tryz.ntmps62
 go_wp2_with fail
 generalize ((w.alloc (.cells #[.slice A p.length c, .slice B q.length d] 80)).alloc (.cells #[.slice none 0 0, .slice none 0 0] 84)) = W at *
 revert h h2
 refine lg2 UP ?_
 intro h h2
 obtain ⟨b0_0, b0_1⟩ := b0.c2
 obtain ⟨r0_0, r0_1⟩ := r0.c2
 have r0_f0 := r0.free
 revert UP b0 r0 h h2 b0_0 b0_1
 refine lg7 (Up.refl W).drew ?_
 intro UP b0 r0 h h2 b0_0 b0_1
 obtain ⟨r0_0, r0_1⟩ := r0.c2
 have r0_f0 := r0.free
 refine wp_region_noPanic ?_
 refine wp_region_held_drew (S := fun w' => Up w w' ∧ w'.cell? ⟨w.heap.size, 0, none⟩ = some (.slice A p.length c) ∧ w'.cell? ⟨w.heap.size, 1, none⟩ = some (.slice B q.length d)) (by kernel_rfl) ?_ (fun hHeld => ?_)
 · with_reducible exact ⟨UP, b0_0, b0_1⟩
 refine tk 0 ?_
 try simp only [gs, Act.put]
 refine tk 1 ?_
 try simp only [gs, Act.put]
 refine tk 3 ?_
 try simp only [gs, Act.put]
 refine tk 4 ?_
 try simp only [gs, Act.put]
 refine rd 2 (fun K hK => ?_)
 go_simp
 (first
   | (go_at_call 25
      ((with_reducible refine (law_to11b h (by omega)).mono ?_))
      rintro e W1 ⟨V1, rfl, x, u1⟩
      obtain ⟨Ax, cx, rfl⟩ := x.form
      revert UP b0 r0 h h2 b0_0 b0_1 r0_0 r0_1; refine lg9 u1 ?_; intro UP b0 r0 h h2 b0_0 b0_1 r0_0 r0_1
      try (replace x := x.up u1)
      try (replace y := y.up u1)
      replace r0_f0 := r0.free
      clear u1))
 try go_wp2_with fail
 try clear hHeld
 refine hK.out _ _ ?_ (fun hHeld => ?_)
 · with_reducible exact ⟨UP, b0_0, b0_1⟩
 clear hK K
 try simp only [gs, Act.put]
 refine rd 5 (fun K hK => ?_)
 go_simp
 (first
   | (go_at_call 25
      ((with_reducible refine (law_to11b h2 (by omega)).mono ?_))
      rintro e W2 ⟨V2, rfl, y, u2⟩
      obtain ⟨Ay, cy, rfl⟩ := y.form
      revert UP b0 r0 h h2 b0_0 b0_1 r0_0 r0_1; refine lg9 u2 ?_; intro UP b0 r0 h h2 b0_0 b0_1 r0_0 r0_1
      try (replace x := x.up u2)
      try (replace y := y.up u2)
      replace r0_f0 := r0.free
      clear u2))
 try go_wp2_with fail
 try clear hHeld
 refine hK.out _ _ ?_ (fun hHeld => ?_)
 · with_reducible exact ⟨UP, b0_0, b0_1⟩
 clear hK K
 try simp only [gs, Act.put]
 refine tk 6 ?_
 try simp only [gs, Act.put]
 refine rd 7 (fun K hK => ?_)
 go_simp
 skip
 try go_wp2_with fail
 try clear hHeld
 refine hK.out _ _ ?_ (fun hHeld => ?_)
 · (first | with_reducible exact ⟨UP, b0_0, b0_1⟩ | with_reducible exact ⟨(us (us UP)), (cf (cf b0_0)), (cf (cf b0_1))⟩)
 clear hK K
 try simp only [gs, Act.put]
 refine wpAnyH_done (by kernel_rfl) ?_ _
 refine NoPanic.normal ?_
 clear hHeld
 clear h h2
 have KW : Kw (W2) ((W2).setCell ⟨w.heap.size + 1, 0, none⟩ (.slice Ax p.length cx)) := Kw.store (c := (.slice none 0 0)) r0 rfl trivial _
 replace x := x.stored r0 (by decide) KW
 replace y := y.stored r0 (by decide) KW
 replace b0 := b0.fr (w.heap.size + 1) 0 (.slice Ax p.length cx)
 replace r0 : Bx 84 ((W2).setCell ⟨w.heap.size + 1, 0, none⟩ (.slice Ax p.length cx)) (w.heap.size + 1) [.slice Ax p.length cx, .slice none 0 0] := r0.set 0 (.slice Ax p.length cx)
 replace UP := UP.setCell (p := ⟨w.heap.size + 1, 0, none⟩) (by dsimp only; omega) (.slice Ax p.length cx)
 have KW : Kw (((W2).setCell ⟨w.heap.size + 1, 0, none⟩ (.slice Ax p.length cx))) ((((W2).setCell ⟨w.heap.size + 1, 0, none⟩ (.slice Ax p.length cx))).setCell ⟨w.heap.size + 1, 1, none⟩ (.slice Ay q.length cy)) := Kw.store (c := (.slice none 0 0)) r0 rfl trivial _
 replace x := x.stored r0 (by decide) KW
 replace y := y.stored r0 (by decide) KW
 replace b0 := b0.fr (w.heap.size + 1) 1 (.slice Ay q.length cy)
 replace r0 : Bx 84 ((((W2).setCell ⟨w.heap.size + 1, 0, none⟩ (.slice Ax p.length cx))).setCell ⟨w.heap.size + 1, 1, none⟩ (.slice Ay q.length cy)) (w.heap.size + 1) [.slice Ax p.length cx, .slice Ay q.length cy] := r0.set 1 (.slice Ay q.length cy)
 replace UP := UP.setCell (p := ⟨w.heap.size + 1, 1, none⟩) (by dsimp only; omega) (.slice Ay q.length cy)
 clear KW
 generalize ((((W2).setCell ⟨w.heap.size + 1, 0, none⟩ (.slice Ax p.length cx))).setCell ⟨w.heap.size + 1, 1, none⟩ (.slice Ay q.length cy)) = W3 at *
 clear b0_0 b0_1 r0_0 r0_1
 obtain ⟨b0_0, b0_1⟩ := b0.c2
 obtain ⟨r0_0, r0_1⟩ := r0.c2
 go_wp2_with fail
 exact bodyPost_ret (run_res_cell rfl rfl agg_fun size_fun r0 rfl) rfl ⟨_, _, rfl, x, y, UP⟩
set_option maxRecDepth 100000 in
set_option maxHeartbeats 1600000 in
theorem ref_long15 {v u : Value} {rs ts : List Raw} {w : World} (m k : Nat) {M K : Int} (hM : M = (m : Int)) (hK : K = (k : Int)) (h : RSq w v rs) (h2 : RSq w u ts) (hm : m ≤ 1000) (hk : k ≤ 1000) :
 Calls Tryz.prog 59 #[.agg #[v, u], .int .i64 M, .int .i64 K] w fun e w' => ∃ t, e = .returned (.bool t) ∧ Hid (t = false → (rs.length ≤ m ∧ ∀ r ∈ rs, r.few k) ∧ (ts.length ≤ m ∧ ∀ r ∈ ts, r.few k)) ∧ Up w w' := by
 subst hM hK
 obtain ⟨A, c, rfl⟩ := h.form
 obtain ⟨B, d, rfl⟩ := h2.form
 have UP : Up w (w.alloc (.cells #[.slice A rs.length c, .slice B ts.length d] 80)) := (Up.refl w).alloc _
 have b0 := Bx.new 80 w [.slice A rs.length c, .slice B ts.length d]
 go_enter Tryz.func59, Tryz.ntmps59
 go_wp2_with fail
 generalize (w.alloc (.cells #[.slice A rs.length c, .slice B ts.length d] 80)) = W at *
 revert h h2
 refine lg2 UP ?_
 intro h h2
 obtain ⟨b0_0, b0_1⟩ := b0.c2
 go_wp2_with fail
 ((with_reducible refine (ref_long11r m k h (by omega) (by omega)).mono ?_))
 rintro e W1 ⟨t1, rfl, ht1, u1⟩
 revert UP b0 h h2 b0_0 b0_1
 revert u1
 refine lh6 ?_
 intro UP b0 h h2 b0_0 b0_1
 cases t1
 rotate_left
 · go_wp2
   go_ret
   exact ⟨true, rfl, Lib.hid (fun hh => by cases hh), UP⟩
 have g1 := Lib.hid (ht1.out rfl)
 clear ht1
 go_wp2_with fail
 ((with_reducible refine (ref_long11r m k h2 (by omega) (by omega)).mono ?_))
 rintro e W2 ⟨t2, rfl, ht2, u2⟩
 refine li6 u2 h h2 b0 UP b0_0 b0_1 ?_
 clear h h2 b0 UP b0_0 b0_1 u2
 intro h h2 b0 UP b0_0 b0_1
 go_wp2
 go_ret
 have g2 := ht2.out
 exact ⟨t2, rfl, Lib.hid (fun hh => ⟨g1.out, g2 hh⟩), UP⟩
theorem ref_long9h {s : Bool} {A D : Option Addr} {l m : List Nat} {c d : Nat} {w : World} (k : Nat) {K : Int} (hK : K = (k : Int)) (hk : k ≤ 1000) : Calls Tryz.prog 20 #[.agg #[.bool s, .slice A l.length c, .slice D m.length d], .int .i64 K] w fun e w' => ∃ t, e = .returned (.bool t) ∧ Hid (t = false → l.length ≤ k ∧ m.length ≤ k) ∧ Up w w' := by
 subst hK
 by_cases h : (k : Int) < (l.length : Int) ∨ (k : Int) < (m.length : Int)
 · refine (ref_long9_yes h (by omega)).mono ?_
   rintro e w' ⟨rfl, u⟩
   exact ⟨true, rfl, Lib.hid (fun hh => by cases hh), u⟩
 · refine (ref_long9_no (by omega) (by omega) (by omega)).mono ?_
   rintro e w' ⟨rfl, u⟩
   exact ⟨false, rfl, Lib.hid (fun _ => ⟨by omega, by omega⟩), u⟩
set_option maxRecDepth 100000
open Go.ChangeShapes Go.WideShapes Go.Deep in
theorem open_fun {H : Type} {enc : TypeId × Value → H} {W : World} {base : Nat} {v : Value} {d : DataW H} {p : List MemPlace} (hv : Value.okWide Tryz.prog W .any base 80 v) (h : DataW.Trod enc Tryz.prog W 0 (fun _ => true) true 80 v d p) : ∃ V U rs ts, v = .agg #[V, U] ∧ RSq W V rs ∧ RSq W U ts := by
 have cells : Tryz.prog.cellsOf 80 = 2 := by kernel_rfl
 simp only [Value.okWide, Tryz.underlying80] at hv
 obtain ⟨cs, rfl, hsz, _⟩ := hv
 rw [cells] at hsz
 obtain ⟨x0, x1, rfl⟩ : ∃ x0 x1, cs = #[x0, x1] := by
  match cs, hsz with
  | ⟨[x0, x1]⟩, _ => exact ⟨x0, x1, rfl⟩
 obtain ⟨fuel, hf⟩ := h
 obtain ⟨ys, n', _, _, hlen, hyl, hf⟩ := DataW.trod_struct Tryz.underlying80 hf
 have f0 : DataW.trod enc Tryz.prog W 0 (fun _ => true) true n' 44 (([x0, x1].drop 0).take (Tryz.prog.cellsOf 44)) = ys[0]? := hf 0 _ rfl
 have f1 : DataW.trod enc Tryz.prog W 0 (fun _ => true) true n' 44 (([x0, x1].drop 1).take (Tryz.prog.cellsOf 44)) = ys[1]? := hf 1 _ rfl
 have hy2 : ys.length = 2 := hyl
 rw [cells_fracs, List.getElem?_eq_getElem (by omega)] at f0 f1
 obtain ⟨rs, h0⟩ := raws_of_trod f0
 obtain ⟨ts, h1⟩ := raws_of_trod f1
 exact ⟨x0, x1, rs, ts, rfl, h0, h1⟩
end Go.Proofs.YtmmcffceeahemaaGreat
