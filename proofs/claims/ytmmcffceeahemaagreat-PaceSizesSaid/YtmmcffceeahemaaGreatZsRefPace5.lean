/-
  Layer 36, the document's answers: what is cut at the end; the factor behind an error.
-/
import Derived.Test.YtmmcffceeahemaaGreatZsRefPace2
import Derived.Test.YtmmcffceeahemaaGreatZsRefFrac8
import Derived.Test.YtmmcffceeahemaaGreatZsPace4
import Derived.Test.YtmmcffceeahemaaGreatZsPaceLaw
import Derived.Deep.DeepCutAuto
set_option linter.unusedVariables false
set_option linter.unusedSimpArgs false
namespace Pc
theorem cut_iff (t en want : Rat) : en - t < want ↔ en < t + want := by
 constructor
 · intro h; grind
 · intro h; grind
theorem down_nat {tol safe e : Rat} {fi : Int} (h1 : 1 ≤ fi) (ht : 0 ≤ tol) (hs : 0 < safe) (he : 0 < e) : 0 ≤ (safe * tol * (fi : Rat) / e).floor ∧ ((safe * tol * (fi : Rat) / e).floor : Rat) / (fi : Rat) = down (safe * tol / e) fi := by
 have hf : (0 : Rat) < (fi : Rat) := by
  have h0 : ((0 : Int) : Rat) < (fi : Rat) := Rat.intCast_lt_intCast.2 (by omega)
  simpa using h0
 have e1 : safe * tol * (fi : Rat) / e = safe * tol / e * (fi : Rat) := by grind
 have hnn : 0 ≤ safe * tol * (fi : Rat) / e := by
  have a1 : 0 ≤ safe * tol := Rat.mul_nonneg (Rat.le_of_lt hs) ht
  have a2 : 0 ≤ safe * tol * (fi : Rat) := Rat.mul_nonneg a1 (Rat.le_of_lt hf)
  rw [Rat.div_def]
  exact Rat.mul_nonneg a2 (Rat.le_of_lt (Rat.inv_pos.2 he))
 refine ⟨Rat.le_floor_iff.2 (by simpa using hnn), ?_⟩
 rw [down_eq _ h1, e1, Rat.div_def]
end Pc
namespace Go.Proofs.YtmmcffceeahemaaGreat
open Go.RowKit
set_option maxRecDepth 100000 in
set_option maxHeartbeats 3200000 in
theorem ref_cut36 {v1 v2 v3 : Value} {t en want : Rat} {k : Nat} {w : World} (h1 : Qw w v1 t) (h2 : Qw w v2 en) (h3 : Qw w v3 want) (l1 : Wd.Lq t k) (l2 : Wd.Lq en k) (l3 : Wd.Lq want k) (hk : k ≤ 100000) :
 Calls Tryz.prog 51 #[v1, v2, v3] w (RetQ (Pc.cut t en want) w) := by
 obtain ⟨X1, Y1, rfl, x1, xd1⟩ := h1
 obtain ⟨A1, n1, c1, rfl⟩ := x1.shape
 obtain ⟨D1, p1, d1, rfl⟩ := xd1.shape
 obtain ⟨X2, Y2, rfl, x2, xd2⟩ := h2
 obtain ⟨A2, n2, c2, rfl⟩ := x2.shape
 obtain ⟨D2, p2, d2, rfl⟩ := xd2.shape
 obtain ⟨X3, Y3, rfl, x3, xd3⟩ := h3
 obtain ⟨A3, n3, c3, rfl⟩ := x3.shape
 obtain ⟨D3, p3, d3, rfl⟩ := xd3.shape
 have LS := l1.add l3
 have HI := Lib.hid (Pc.cut_iff t en want)
 obtain ⟨S, HS⟩ : ∃ x, Hid (t + want = x) := ⟨_, Lib.hid rfl⟩
 rw [HS.out] at LS HI
 have HN := Lib.hid (Wd.cmpQ_pos S en)
 obtain ⟨z, HZ⟩ : ∃ z, Hid (Wd.cmpQ S en = z) := ⟨_, Lib.hid rfl⟩
 rw [HZ.out] at HN
 have HC : Hid (Pc.cut t en want = if en - t < want then en - t else want) := Lib.hid rfl
 have UP : Up w ((((w.alloc (.cells #[.bool (Wd.ngb t.num), .slice A1 n1 c1, .slice D1 p1 d1] 24)).alloc (.cells #[.bool (Wd.ngb en.num), .slice A2 n2 c2, .slice D2 p2 d2] 24)).alloc (.cells #[.bool (Wd.ngb want.num), .slice A3 n3 c3, .slice D3 p3 d3] 24)).alloc (.cells #[.bool false, .slice none 0 0, .slice none 0 0] 24)) := ((((Up.refl w).alloc _).alloc _).alloc _).alloc _
 obtain ⟨b1, b2, b3, r0⟩ := bx_four 24 24 24 24 w [.bool (Wd.ngb t.num), .slice A1 n1 c1, .slice D1 p1 d1] [.bool (Wd.ngb en.num), .slice A2 n2 c2, .slice D2 p2 d2] [.bool (Wd.ngb want.num), .slice A3 n3 c3, .slice D3 p3 d3] [.bool false, .slice none 0 0, .slice none 0 0]
 go_enter Tryz.func51, Tryz.ntmps51
 go_wp2_with fail
 generalize ((((w.alloc (.cells #[.bool (Wd.ngb t.num), .slice A1 n1 c1, .slice D1 p1 d1] 24)).alloc (.cells #[.bool (Wd.ngb en.num), .slice A2 n2 c2, .slice D2 p2 d2] 24)).alloc (.cells #[.bool (Wd.ngb want.num), .slice A3 n3 c3, .slice D3 p3 d3] 24)).alloc (.cells #[.bool false, .slice none 0 0, .slice none 0 0] 24)) = W at *
 replace x1 := x1.up UP
 replace xd1 := xd1.up UP
 replace x2 := x2.up UP
 replace xd2 := xd2.up UP
 replace x3 := x3.up UP
 replace xd3 := xd3.up UP
 obtain ⟨b1_0, b1_1, b1_2⟩ := b1.c3
 obtain ⟨b2_0, b2_1, b2_2⟩ := b2.c3
 obtain ⟨b3_0, b3_1, b3_2⟩ := b3.c3
 obtain ⟨r0_0, r0_1, r0_2⟩ := r0.c3
 have r0_f0 := r0.free 0
 have r0_f1 := r0.free 1
 have r0_f2 := r0.free 2
 replace x1 := x1.up (Up.refl W).drew
 replace xd1 := xd1.up (Up.refl W).drew
 replace x2 := x2.up (Up.refl W).drew
 replace xd2 := xd2.up (Up.refl W).drew
 replace x3 := x3.up (Up.refl W).drew
 replace xd3 := xd3.up (Up.refl W).drew
 replace b1 := b1.up (Up.refl W).drew
 replace b2 := b2.up (Up.refl W).drew
 replace b3 := b3.up (Up.refl W).drew
 replace r0 := r0.up (Up.refl W).drew
 replace UP := UP.trans (Up.refl W).drew
 clear b1_0 b1_1 b1_2 b2_0 b2_1 b2_2 b3_0 b3_1 b3_2 r0_0 r0_1 r0_2
 obtain ⟨b1_0, b1_1, b1_2⟩ := b1.c3
 obtain ⟨b2_0, b2_1, b2_2⟩ := b2.c3
 obtain ⟨b3_0, b3_1, b3_2⟩ := b3.c3
 obtain ⟨r0_0, r0_1, r0_2⟩ := r0.c3
 replace r0_f0 := r0.free 0
 replace r0_f1 := r0.free 1
 replace r0_f2 := r0.free 2
 refine wp_region_noPanic ?_
 refine wp_region_held_drew (S := fun w' => Up w w' ∧ w'.cell? ⟨w.heap.size, 0, none⟩ = some (.bool (Wd.ngb t.num)) ∧ w'.cell? ⟨w.heap.size, 1, none⟩ = some (.slice A1 n1 c1) ∧ w'.cell? ⟨w.heap.size, 2, none⟩ = some (.slice D1 p1 d1) ∧ w'.cell? ⟨w.heap.size + 1, 0, none⟩ = some (.bool (Wd.ngb en.num)) ∧ w'.cell? ⟨w.heap.size + 1, 1, none⟩ = some (.slice A2 n2 c2) ∧ w'.cell? ⟨w.heap.size + 1, 2, none⟩ = some (.slice D2 p2 d2) ∧ w'.cell? ⟨w.heap.size + 1 + 1, 0, none⟩ = some (.bool (Wd.ngb want.num)) ∧ w'.cell? ⟨w.heap.size + 1 + 1, 1, none⟩ = some (.slice A3 n3 c3) ∧ w'.cell? ⟨w.heap.size + 1 + 1, 2, none⟩ = some (.slice D3 p3 d3)) (by kernel_rfl) ?_ (fun hHeld => ?_)
 · with_reducible exact ⟨UP, b1_0, b1_1, b1_2, b2_0, b2_1, b2_2, b3_0, b3_1, b3_2⟩
 refine wpAnyH_take (i := 0) (v := ?_) rfl (by kernel_rfl) (by kernel_rfl) (by kernel_rfl) (fun _ _ _ h => h) (Or.inl ⟨by rfl, ?_⟩) (by assumption) ?_
 rotate_left
 · (intro w hSw; (try dsimp only at hSw); go_simp; first | done | with_reducible rfl)
 try simp only [List.getElem_toArray, List.getElem_cons_zero, List.getElem_cons_succ, Act.put, List.setIfInBounds_toArray, List.set_cons_zero, List.set_cons_succ]
 refine wpAnyH_take (i := 1) (v := ?_) rfl (by kernel_rfl) (by kernel_rfl) (by kernel_rfl) (fun _ _ _ h => h) (Or.inl ⟨by rfl, ?_⟩) (by assumption) ?_
 rotate_left
 · (intro w hSw; (try dsimp only at hSw); go_simp; first | done | with_reducible rfl)
 try simp only [List.getElem_toArray, List.getElem_cons_zero, List.getElem_cons_succ, Act.put, List.setIfInBounds_toArray, List.set_cons_zero, List.set_cons_succ]
 refine wpAnyH_take (i := 3) (v := ?_) rfl (by kernel_rfl) (by kernel_rfl) (by kernel_rfl) (fun _ _ _ h => h) (Or.inl ⟨by rfl, ?_⟩) (by assumption) ?_
 rotate_left
 · (intro w hSw; (try dsimp only at hSw); go_simp; first | done | with_reducible rfl)
 try simp only [List.getElem_toArray, List.getElem_cons_zero, List.getElem_cons_succ, Act.put, List.setIfInBounds_toArray, List.set_cons_zero, List.set_cons_succ]
 refine wpAnyH_ready (rs := [2]) (by kernel_rfl) (by simp) ?_
 refine AllReadyH.cons rfl (fun K hK => ?_) AllReadyH.nil
 go_simp
 (first
   | (go_at_call 111
      ((with_reducible refine (ref9_add (qw_of2 x1 xd1) (qw_of2 x3 xd3) l1 l3 (by omega) (by omega)).mono ?_))
      rintro e W1 ⟨V1, rfl, s, u1⟩
      replace x1 := x1.up u1
      replace xd1 := xd1.up u1
      replace x2 := x2.up u1
      replace xd2 := xd2.up u1
      replace x3 := x3.up u1
      replace xd3 := xd3.up u1
      try (replace s := s.up u1)
      replace b1 := b1.up u1
      replace b2 := b2.up u1
      replace b3 := b3.up u1
      replace r0 := r0.up u1
      replace UP := UP.trans u1
      clear b1_0 b1_1 b1_2 b2_0 b2_1 b2_2 b3_0 b3_1 b3_2 r0_0 r0_1 r0_2
      obtain ⟨b1_0, b1_1, b1_2⟩ := b1.c3
      obtain ⟨b2_0, b2_1, b2_2⟩ := b2.c3
      obtain ⟨b3_0, b3_1, b3_2⟩ := b3.c3
      obtain ⟨r0_0, r0_1, r0_2⟩ := r0.c3
      replace r0_f0 := r0.free 0
      replace r0_f1 := r0.free 1
      replace r0_f2 := r0.free 2
      clear u1
      rw [HS.out] at s))
 try go_wp2_with fail
 try clear hHeld
 refine hK.out _ _ ?_ (fun hHeld => ?_)
 · with_reducible exact ⟨UP, b1_0, b1_1, b1_2, b2_0, b2_1, b2_2, b3_0, b3_1, b3_2⟩
 clear hK K
 try simp only [List.getElem_toArray, List.getElem_cons_zero, List.getElem_cons_succ, Act.put, List.setIfInBounds_toArray, List.set_cons_zero, List.set_cons_succ]
 refine wpAnyH_ready (rs := [4]) (by kernel_rfl) (by simp) ?_
 refine AllReadyH.cons rfl (fun K hK => ?_) AllReadyH.nil
 go_simp
 (first
   | (go_at_call 54
      ((with_reducible refine (ref9_cmp s (qw_of2 x2 xd2) LS l2 (by omega) (by omega)).mono ?_))
      rintro e W2 ⟨rfl, u2⟩
      replace x1 := x1.up u2
      replace xd1 := xd1.up u2
      replace x2 := x2.up u2
      replace xd2 := xd2.up u2
      replace x3 := x3.up u2
      replace xd3 := xd3.up u2
      try (replace s := s.up u2)
      replace b1 := b1.up u2
      replace b2 := b2.up u2
      replace b3 := b3.up u2
      replace r0 := r0.up u2
      replace UP := UP.trans u2
      clear b1_0 b1_1 b1_2 b2_0 b2_1 b2_2 b3_0 b3_1 b3_2 r0_0 r0_1 r0_2
      obtain ⟨b1_0, b1_1, b1_2⟩ := b1.c3
      obtain ⟨b2_0, b2_1, b2_2⟩ := b2.c3
      obtain ⟨b3_0, b3_1, b3_2⟩ := b3.c3
      obtain ⟨r0_0, r0_1, r0_2⟩ := r0.c3
      replace r0_f0 := r0.free 0
      replace r0_f1 := r0.free 1
      replace r0_f2 := r0.free 2
      clear u2
      rw [HZ.out]))
 try go_wp2_with fail
 try clear hHeld
 refine hK.out _ _ ?_ (fun hHeld => ?_)
 · with_reducible exact ⟨UP, b1_0, b1_1, b1_2, b2_0, b2_1, b2_2, b3_0, b3_1, b3_2⟩
 clear hK K
 try simp only [List.getElem_toArray, List.getElem_cons_zero, List.getElem_cons_succ, Act.put, List.setIfInBounds_toArray, List.set_cons_zero, List.set_cons_succ]
 refine wpAnyH_take (i := 5) (v := ?_) rfl (by kernel_rfl) (by kernel_rfl) (by kernel_rfl) (fun _ _ _ h => h) (Or.inl ⟨by rfl, ?_⟩) (by assumption) ?_
 rotate_left
 · (intro w hSw; (try dsimp only at hSw); go_simp; first | done | with_reducible rfl)
 try simp only [List.getElem_toArray, List.getElem_cons_zero, List.getElem_cons_succ, Act.put, List.setIfInBounds_toArray, List.set_cons_zero, List.set_cons_succ]
 refine wpAnyH_done (by kernel_rfl) ?_ _
 refine NoPanic.normal ?_
 clear hHeld
 clear s
 by_cases hlt : en - t < want
 · have k2 : z > 0 := HN.out.2 (HI.out.1 hlt)
   have HC2 : Hid (en - t = Pc.cut t en want) := Lib.hid (by rw [HC.out, if_pos hlt])
   clear hlt
   go_wp2_with fail
   ((with_reducible refine (ref9_sub (qw_of2 x2 xd2) (qw_of2 x1 xd1) l2 l1 (by omega) (by omega)).mono ?_))
   rintro e W3 ⟨V3, rfl, l, u3⟩
   replace x1 := x1.up u3
   replace xd1 := xd1.up u3
   replace x2 := x2.up u3
   replace xd2 := xd2.up u3
   replace x3 := x3.up u3
   replace xd3 := xd3.up u3
   replace b1 := b1.up u3
   replace b2 := b2.up u3
   replace b3 := b3.up u3
   replace r0 := r0.up u3
   replace UP := UP.trans u3
   clear b1_0 b1_1 b1_2 b2_0 b2_1 b2_2 b3_0 b3_1 b3_2 r0_0 r0_1 r0_2
   obtain ⟨b1_0, b1_1, b1_2⟩ := b1.c3
   obtain ⟨b2_0, b2_1, b2_2⟩ := b2.c3
   obtain ⟨b3_0, b3_1, b3_2⟩ := b3.c3
   obtain ⟨r0_0, r0_1, r0_2⟩ := r0.c3
   replace r0_f0 := r0.free 0
   replace r0_f1 := r0.free 1
   replace r0_f2 := r0.free 2
   clear u3
   rw [HC2.out] at l
   obtain ⟨Xl, Yl, rfl, l, ld⟩ := l
   obtain ⟨Al, nl, cl, rfl⟩ := l.shape
   obtain ⟨Ald, nld, cld, rfl⟩ := ld.shape
   go_wp2_with fail
   exact end_rq rfl rfl rfl ⟨_, _, rfl, l, ld⟩ r0 trivial trivial trivial UP (by omega)
 · skip
   have k2 : ¬ (z > 0) := fun hh => hlt (HI.out.2 (HN.out.1 hh))
   have HC2 : Hid (Pc.cut t en want = want) := Lib.hid (by rw [HC.out, if_neg hlt])
   clear hlt
   go_wp2_with fail
   exact end_rq rfl rfl rfl (by rw [HC2.out]; exact qw_of2 x3 xd3) r0 trivial trivial trivial UP (by omega)
end Go.Proofs.YtmmcffceeahemaaGreat
