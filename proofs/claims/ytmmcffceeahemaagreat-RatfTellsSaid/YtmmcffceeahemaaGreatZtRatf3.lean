/-
  Layer 15: of two polynomials; a quotient; the same everywhere, a line; times -1, a difference; a value; the derivative.
-/
import Derived.Test.YtmmcffceeahemaaGreatZtRatf2
import Derived.Deep.DeepCutAuto
import Derived.Test.YtmmcffceeahemaaGreatZtShort
set_option linter.unusedVariables false
set_option linter.unusedSimpArgs false
namespace Pq
theorem Can.neg {p q U D : List Rat} (h : Can p q U D) : Can (sc (-1) p) q (sc (-1) U) D := by
 obtain ⟨s, t, e⟩ := h.cop
 refine ⟨?_, h.mo, h.ne, fun x => ?_, sc (-1) s, t, fun x => ?_⟩
 · rcases h.tr with e | e
   · exact .inl (by rw [e]; rfl)
   · exact .inr (by rw [sc_len, sc_getD]; grind)
 · have := h.eq x
   rw [E_sc, E_sc]
   grind
 · have := e x
   rw [E_sc, E_sc]
   grind
end Pq
namespace Go.Proofs.YtmmcffceeahemaaGreat
open Go.RowKit
/-- A right function comes back, and whether there is one. -/
def RetFnB (b : Bool) (K m : Nat) (p q : List Rat) (w : World) (e : Ending) (w' : World) : Prop := ∃ V U P Q, e = .returned (.tuple #[.agg #[V, U], .bool b]) ∧ ARow K w' V P ∧ ARow K w' U Q ∧ Hid (Pq.Can p q P Q) ∧ Hid (Pq.Lp (P ++ Q) K) ∧ Hid (P.length ≤ m ∧ Q.length ≤ m) ∧ Up w w'
set_option maxRecDepth 100000 in
set_option maxHeartbeats 3200000 in
theorem ratf_new {v u : Value} {p q : List Rat} {ka j m K : Nat} {w : World} (h : FSq ka w v p) (h2 : FSq ka w u q) (hq : Hid (Pq.nm q ≠ [])) (hl : p.length ≤ m) (hl2 : q.length ≤ m) (hm : m ≤ 1000) (LJ : Pq.Lp (p ++ q) j) (hK : 2 * m * (j + 1) ≤ K) (hK2 : (m + 3) * (K + 1) ≤ 3000000) (hka : ka ≤ 2000000) :
 Calls Tryz.prog 63 #[v, u] w (RetFnB true K m p q w) := by
 obtain ⟨A, c, rfl⟩ := h.form
 obtain ⟨B, d, rfl⟩ := h2.form
 obtain ⟨z, HZ⟩ : ∃ z, Hid (((Pq.nm q).length : Int) - 1 = z) := ⟨_, Lib.hid rfl⟩
 have hz : ¬ z < 0 := by have := List.length_pos_iff.2 hq.out; have := HZ.out; omega
 have UP : Up w (w.alloc (.cells #[.slice none 0 0, .slice none 0 0] 84)) := (Up.refl w).alloc _
 have r0 := Bx.new 84 w [.slice none 0 0, .slice none 0 0]
 go_enter Tryz.func63, Tryz.ntmps63
 go_wp2_with fail
 generalize (w.alloc (.cells #[.slice none 0 0, .slice none 0 0] 84)) = W at *
 revert h h2
 refine lg2 UP ?_
 intro h h2
 obtain ⟨r0_0, r0_1⟩ := r0.c2
 have r0_f0 := r0.free
 go_wp2_with fail
 ((with_reducible refine (poly_degree h2.sq (by omega) (by omega)).mono ?_))
 rintro e W1 ⟨rfl, u1⟩
 revert UP r0 h h2 r0_0 r0_1
 refine lg6 u1 ?_
 intro UP r0 h h2 r0_0 r0_1
 replace r0_f0 := r0.free
 clear u1
 rw [HZ.out]
 go_wp2_with fail
 ((with_reducible refine (ratf_cancel h h2 hq hl hl2 hm LJ hK hK2 hka).mono ?_))
 rintro e W2 ⟨V2, U2, psa, qsa, rfl, a, b, caa, lpa, lea, u2⟩
 obtain ⟨Aa, ca, rfl⟩ := a.form
 obtain ⟨Ab, cb, rfl⟩ := b.form
 revert UP r0 h h2 r0_0 r0_1
 refine lg6 u2 ?_
 intro UP r0 h h2 r0_0 r0_1
 replace r0_f0 := r0.free
 clear u2
 clear h h2
 go_wp2_with fail
 have KW : Kw (W2) ((W2).setCell ⟨w.heap.size, 0, none⟩ (.slice Aa psa.length ca)) := Kw.store (c := (.slice none 0 0)) r0 rfl trivial _
 replace a := a.stored r0 (by decide) KW
 replace b := b.stored r0 (by decide) KW
 replace r0 : Bx 84 ((W2).setCell ⟨w.heap.size, 0, none⟩ (.slice Aa psa.length ca)) (w.heap.size) [.slice Aa psa.length ca, .slice none 0 0] := r0.set 0 (.slice Aa psa.length ca)
 replace UP := UP.setCell (p := ⟨w.heap.size, 0, none⟩) (by dsimp only; omega) (.slice Aa psa.length ca)
 have KW : Kw (((W2).setCell ⟨w.heap.size, 0, none⟩ (.slice Aa psa.length ca))) ((((W2).setCell ⟨w.heap.size, 0, none⟩ (.slice Aa psa.length ca))).setCell ⟨w.heap.size, 1, none⟩ (.slice Ab qsa.length cb)) := Kw.store (c := (.slice none 0 0)) r0 rfl trivial _
 replace a := a.stored r0 (by decide) KW
 replace b := b.stored r0 (by decide) KW
 replace r0 : Bx 84 ((((W2).setCell ⟨w.heap.size, 0, none⟩ (.slice Aa psa.length ca))).setCell ⟨w.heap.size, 1, none⟩ (.slice Ab qsa.length cb)) (w.heap.size) [.slice Aa psa.length ca, .slice Ab qsa.length cb] := r0.set 1 (.slice Ab qsa.length cb)
 replace UP := UP.setCell (p := ⟨w.heap.size, 1, none⟩) (by dsimp only; omega) (.slice Ab qsa.length cb)
 clear KW
 generalize ((((W2).setCell ⟨w.heap.size, 0, none⟩ (.slice Aa psa.length ca))).setCell ⟨w.heap.size, 1, none⟩ (.slice Ab qsa.length cb)) = W3 at *
 clear r0_0 r0_1
 obtain ⟨r0_0, r0_1⟩ := r0.c2
 exact bodyPost_ret (run_res_cell_tmp rfl rfl agg_fun size_fun r0 rfl) rfl ⟨_, _, _, _, rfl, a, b, caa, lpa, lea, UP⟩
set_option maxRecDepth 100000 in
set_option maxHeartbeats 3200000 in
theorem ratf_quo {v u v' u' : Value} {p q P D p' q' P' D' : List Rat} {k j m j' m' K : Nat} {w : World} (h : FSq k w v p) (h2 : FSq k w u q) (hl : p.length ≤ m) (hl2 : q.length ≤ m) (hm1 : 1 ≤ m) (LJ : Pq.Lp (p ++ q) j) (h' : FSq k w v' p') (h2' : FSq k w u' q') (hl' : p'.length ≤ m') (hl2' : q'.length ≤ m') (hm1' : 1 ≤ m') (LJ' : Pq.Lp (p' ++ q') j')
 (mo : Nat) (hmo : m + m' ≤ mo + 1) (hm : mo ≤ 1000) (hK : 2 * mo * (j + j' + 2) ≤ K) (hK2 : (mo + 3) * (K + 1) ≤ 3000000) (hk2 : 2 ≤ k) (hka : k ≤ 2000000) (HP : Hid (Pq.pu p q = P)) (HD : Hid (Pq.pd p q = D)) (HP' : Hid (Pq.pu p' q' = P')) (HD' : Hid (Pq.pd p' q' = D')) (HN : Hid (Pq.nm P' ≠ [])) :
 Calls Tryz.prog 77 #[.agg #[v, u], .agg #[v', u']] w (RetFnB true K mo (Pq.nm (Pq.mul P D')) (Pq.nm (Pq.mul D P')) w) := by
 obtain ⟨A1, c1, rfl⟩ := h.form
 obtain ⟨B1, d1, rfl⟩ := h2.form
 obtain ⟨A2, c2, rfl⟩ := h'.form
 obtain ⟨B2, d2, rfl⟩ := h2'.form
 have lP : P.length ≤ m := by rw [← HP.out]; exact Nat.le_trans (Pq.pu_len p q) hl
 have lD : D.length ≤ m := by rw [← HD.out]; have := Pq.pd_len p q; omega
 have LPD : Hid (Pq.Lp (P ++ D) j) := Lib.hid (by rw [← HP.out, ← HD.out]; exact Pq.pud_lp LJ)
 have DN : Hid (Pq.nm D ≠ []) := Lib.hid (by rw [← HD.out]; exact Pq.pd_ne p q)
 have lP' : P'.length ≤ m' := by rw [← HP'.out]; exact Nat.le_trans (Pq.pu_len p' q') hl'
 have lD' : D'.length ≤ m' := by rw [← HD'.out]; have := Pq.pd_len p' q'; omega
 have LPD' : Hid (Pq.Lp (P' ++ D') j') := Lib.hid (by rw [← HP'.out, ← HD'.out]; exact Pq.pud_lp LJ')
 have hjj : j + j' + 2 ≤ 1500000 := by
  have h1 : 1 * (j + j' + 2) ≤ 2 * mo * (j + j' + 2) := Nat.mul_le_mul_right _ (by omega)
  have h3 : 4 * (K + 1) ≤ (mo + 3) * (K + 1) := Nat.mul_le_mul_right _ (by omega)
  omega
 have LS := Lib.hid (Pq.lp_prod LPD.out LPD'.out.swap (by omega) (by omega))
 have DN2 : Hid (Pq.nm (Pq.nm (Pq.mul D P')) ≠ []) := Lib.hid (Pq.nmul_ne DN.out HN.out)
 have lM1 := Pq.nm_mul_len P D'
 have lM3 := Pq.nm_mul_len D P'
 have LDD := Lib.hid LS.out.snd.lq
 have LSS := Lib.hid LS.out.fst.lq
 obtain ⟨M1, HM1⟩ : ∃ r, Hid (Pq.nm (Pq.mul P D') = r) := ⟨_, Lib.hid rfl⟩
 obtain ⟨M3, HM3⟩ : ∃ r, Hid (Pq.nm (Pq.mul D P') = r) := ⟨_, Lib.hid rfl⟩
 rw [HM1.out] at LS lM1 LSS ⊢
 rw [HM3.out] at LS DN2 lM3 LDD ⊢
 have UP : Up w (((w.alloc (.cells #[.slice A1 p.length c1, .slice B1 q.length d1] 84)).alloc (.cells #[.slice A2 p'.length c2, .slice B2 q'.length d2] 84)).alloc (.cells #[.slice none 0 0, .slice none 0 0] 84)) := (((Up.refl w).alloc _).alloc _).alloc _
 obtain ⟨b0, b1, r0⟩ := bx_three 84 84 84 w [.slice A1 p.length c1, .slice B1 q.length d1] [.slice A2 p'.length c2, .slice B2 q'.length d2] [.slice none 0 0, .slice none 0 0]
 go_enter Tryz.func77, Tryz.ntmps77
 go_wp2_with fail
 generalize (((w.alloc (.cells #[.slice A1 p.length c1, .slice B1 q.length d1] 84)).alloc (.cells #[.slice A2 p'.length c2, .slice B2 q'.length d2] 84)).alloc (.cells #[.slice none 0 0, .slice none 0 0] 84)) = W at *
 revert h h2 h' h2'
 refine lg4 UP ?_
 intro h h2 h' h2'
 obtain ⟨b0_0, b0_1⟩ := b0.c2
 obtain ⟨b1_0, b1_1⟩ := b1.c2
 obtain ⟨r0_0, r0_1⟩ := r0.c2
 have r0_f0 := r0.free
 go_wp2_with fail
 ((with_reducible refine (ratf_parts h h2 (by omega) (by omega) hk2 HP HD).mono ?_))
 rintro e W1 ⟨V1, U1, rfl, x, y, u1⟩
 obtain ⟨Ax, cx, rfl⟩ := x.form
 obtain ⟨Ay, cy, rfl⟩ := y.form
 revert UP b0 b1 r0 h h2 h' h2' b0_0 b0_1 b1_0 b1_1
 refine lg12 u1 ?_
 intro UP b0 b1 r0 h h2 h' h2' b0_0 b0_1 b1_0 b1_1
 revert r0_0 r0_1
 refine lg2 u1 ?_
 intro r0_0 r0_1
 replace r0_f0 := r0.free
 clear u1
 go_wp2_with fail
 ((with_reducible refine (ratf_parts h' h2' (by omega) (by omega) hk2 HP' HD').mono ?_))
 rintro e W2 ⟨V2, U2, rfl, x', y', u2⟩
 obtain ⟨Ax', cx', rfl⟩ := x'.form
 obtain ⟨Ay', cy', rfl⟩ := y'.form
 revert x y UP b0 b1 r0 h h2 h' h2' b0_0 b0_1
 refine lg12 u2 ?_
 intro x y UP b0 b1 r0 h h2 h' h2' b0_0 b0_1
 revert b1_0 b1_1 r0_0 r0_1
 refine lg4 u2 ?_
 intro b1_0 b1_1 r0_0 r0_1
 replace r0_f0 := r0.free
 clear u2
 clear h h2 h' h2'
 go_wp2_with fail
 ((with_reducible refine (poly_mul_as j j' x y' LPD.out.fst LPD'.out.snd (by omega) (by omega) (by omega) (by omega) (by omega) HM1 LSS).mono ?_))
 rintro e W3 ⟨V3, rfl, a3, u3⟩
 obtain ⟨Aa3, ca3, rfl⟩ := a3.form
 revert x' y' x y UP b0 b1 r0 b0_0 b0_1 b1_0 b1_1
 refine lg12 u3 ?_
 intro x' y' x y UP b0 b1 r0 b0_0 b0_1 b1_0 b1_1
 revert r0_0 r0_1
 refine lg2 u3 ?_
 intro r0_0 r0_1
 replace r0_f0 := r0.free
 clear u3
 go_wp2_with fail
 ((with_reducible refine (poly_mul_as j j' y x' LPD.out.snd LPD'.out.fst (by omega) (by omega) (by omega) (by omega) (by omega) HM3 LDD).mono ?_))
 rintro e W4 ⟨V4, rfl, a4, u4⟩
 obtain ⟨Aa4, ca4, rfl⟩ := a4.form
 revert a3 x' y' x y UP b0 b1 r0 b0_0 b0_1 b1_0
 refine lg12 u4 ?_
 intro a3 x' y' x y UP b0 b1 r0 b0_0 b0_1 b1_0
 revert b1_1 r0_0 r0_1
 refine lg3 u4 ?_
 intro b1_1 r0_0 r0_1
 replace r0_f0 := r0.free
 clear u4
 go_wp2_with fail
 ((with_reducible refine (ratf_new (ka := j + j' + 1) a3.fs a4.fs DN2 (by omega) (by omega) hm LS.out hK hK2 (by omega)).mono ?_))
 rintro e W5 ⟨V5, U5, psa, qsa, rfl, a, b, caa, lpa, lea, u5⟩
 obtain ⟨Aa, ca, rfl⟩ := a.form
 obtain ⟨Ab, cb, rfl⟩ := b.form
 revert a4 a3 x' y' x y UP b0 b1 r0 b0_0 b0_1
 refine lg12 u5 ?_
 intro a4 a3 x' y' x y UP b0 b1 r0 b0_0 b0_1
 revert b1_0 b1_1 r0_0 r0_1
 refine lg4 u5 ?_
 intro b1_0 b1_1 r0_0 r0_1
 replace r0_f0 := r0.free
 clear u5
 clear x x' y y' a3 a4
 go_wp2_with fail
 have KW : Kw (W5) ((W5).setCell ⟨w.heap.size + 1 + 1, 0, none⟩ (.slice Aa psa.length ca)) := Kw.store (c := (.slice none 0 0)) r0 rfl trivial _
 replace a := a.stored r0 (by decide) KW
 replace b := b.stored r0 (by decide) KW
 replace b0 := b0.fr (w.heap.size + 1 + 1) 0 (.slice Aa psa.length ca)
 replace b1 := b1.fr (w.heap.size + 1 + 1) 0 (.slice Aa psa.length ca)
 replace r0 : Bx 84 ((W5).setCell ⟨w.heap.size + 1 + 1, 0, none⟩ (.slice Aa psa.length ca)) (w.heap.size + 1 + 1) [.slice Aa psa.length ca, .slice none 0 0] := r0.set 0 (.slice Aa psa.length ca)
 replace UP := UP.setCell (p := ⟨w.heap.size + 1 + 1, 0, none⟩) (by dsimp only; omega) (.slice Aa psa.length ca)
 have KW : Kw (((W5).setCell ⟨w.heap.size + 1 + 1, 0, none⟩ (.slice Aa psa.length ca))) ((((W5).setCell ⟨w.heap.size + 1 + 1, 0, none⟩ (.slice Aa psa.length ca))).setCell ⟨w.heap.size + 1 + 1, 1, none⟩ (.slice Ab qsa.length cb)) := Kw.store (c := (.slice none 0 0)) r0 rfl trivial _
 replace a := a.stored r0 (by decide) KW
 replace b := b.stored r0 (by decide) KW
 replace b0 := b0.fr (w.heap.size + 1 + 1) 1 (.slice Ab qsa.length cb)
 replace b1 := b1.fr (w.heap.size + 1 + 1) 1 (.slice Ab qsa.length cb)
 replace r0 : Bx 84 ((((W5).setCell ⟨w.heap.size + 1 + 1, 0, none⟩ (.slice Aa psa.length ca))).setCell ⟨w.heap.size + 1 + 1, 1, none⟩ (.slice Ab qsa.length cb)) (w.heap.size + 1 + 1) [.slice Aa psa.length ca, .slice Ab qsa.length cb] := r0.set 1 (.slice Ab qsa.length cb)
 replace UP := UP.setCell (p := ⟨w.heap.size + 1 + 1, 1, none⟩) (by dsimp only; omega) (.slice Ab qsa.length cb)
 clear KW
 generalize ((((W5).setCell ⟨w.heap.size + 1 + 1, 0, none⟩ (.slice Aa psa.length ca))).setCell ⟨w.heap.size + 1 + 1, 1, none⟩ (.slice Ab qsa.length cb)) = W6 at *
 clear b0_0 b0_1 b1_0 b1_1 r0_0 r0_1
 obtain ⟨b0_0, b0_1⟩ := b0.c2
 obtain ⟨b1_0, b1_1⟩ := b1.c2
 obtain ⟨r0_0, r0_1⟩ := r0.c2
 exact bodyPost_ret (run_res_cell_tmp rfl rfl agg_fun size_fun r0 rfl) rfl ⟨_, _, _, _, rfl, a, b, caa, lpa, lea, UP⟩
/-- A function comes back, its rows given. -/
def RetFA (K : Nat) (P Q : List Rat) (w : World) (e : Ending) (w' : World) : Prop := ∃ V U, e = .returned (.agg #[V, U]) ∧ ARow K w' V P ∧ ARow K w' U Q ∧ Up w w'
set_option maxRecDepth 100000 in
set_option maxHeartbeats 3200000 in
theorem ratf_of {v : Value} {x : Rat} {k : Nat} {w : World} (h : Fr w v x k) (hk : k ≤ 100000) (hk2 : 2 ≤ k) {R : List Rat} (HR : Hid (Pq.nm [x] = R)) : Calls Tryz.prog 76 #[v] w (RetFA k R [1] w) := by
 obtain ⟨x0, rfl, ⟨A1, n1, c1, e1⟩, ⟨D1, p1, d1, e2⟩⟩ := (kp_fr k).form h
 obtain ⟨s1, u0, d0⟩ := x0
 simp only at e1 e2
 subst e1 e2
 have FX : Fr w (.agg #[.bool s1, .slice A1 n1 c1, .slice D1 p1 d1]) x k := h
 clear h
 have HL : Hid (∀ y ∈ R, Wd.Lq y k) := Lib.hid (fun y hy => by
  rw [← HR.out] at hy
  have := Pq.nm_mem hy
  rw [List.mem_singleton.1 this]
  exact FX.lq)
 have UP : Up w ((w.alloc (.cells #[.bool s1, .slice A1 n1 c1, .slice D1 p1 d1] 34)).alloc (.cells #[.slice none 0 0, .slice none 0 0] 84)) := ((Up.refl w).alloc _).alloc _
 obtain ⟨b0, r0⟩ := bx_two 34 84 w [.bool s1, .slice A1 n1 c1, .slice D1 p1 d1] [.slice none 0 0, .slice none 0 0]
 show Calls Tryz.prog 76 #[.agg #[.bool s1, .slice A1 n1 c1, .slice D1 p1 d1]] w _
 go_enter Tryz.func76, Tryz.ntmps76
 go_upto_region 1 with fail
 generalize ((w.alloc (.cells #[.bool s1, .slice A1 n1 c1, .slice D1 p1 d1] 34)).alloc (.cells #[.slice none 0 0, .slice none 0 0] 84)) = W at *
 replace FX := FX.up UP
 obtain ⟨b0_0, b0_1, b0_2⟩ := b0.c3
 obtain ⟨r0_0, r0_1⟩ := r0.c2
 have r0_f0 := r0.free
 have b0_0a := cA b0_0
 have b0_1a := cA b0_1
 have b0_2a := cA b0_2
 have r0_0a := cA r0_0
 have r0_f0a := r0.fa
 have r0_1a := cA r0_1
 go_wp2_with fail
 clear b0_0a b0_1a b0_2a r0_0a r0_f0a r0_1a
 have y1 := Bx.new 34 W [.bool s1, .slice A1 n1 c1, .slice D1 p1 d1]
 have b0_lt_y1 := b0.lt
 have r0_lt_y1 := r0.lt
 have nu := ((Up.refl W).alloc (.cells #[.bool s1, .slice A1 n1 c1, .slice D1 p1 d1] 34))
 revert UP b0 r0 FX
 revert nu
 refine lh4 ?_
 intro UP b0 r0 FX
 generalize (W.alloc (.cells #[.bool s1, .slice A1 n1 c1, .slice D1 p1 d1] 34)) = W1 at *
 clear b0_0 b0_1 b0_2 r0_0 r0_1
 obtain ⟨b0_0, b0_1, b0_2⟩ := b0.c3
 obtain ⟨r0_0, r0_1⟩ := r0.c2
 replace r0_f0 := r0.free
 obtain ⟨y1_0, y1_1, y1_2⟩ := y1.c3
 ((with_reducible refine (poly_norm_as (fs_one y1 FX) (by simp) (by omega) HR HL).mono ?_))
 rintro e W2 ⟨V2, rfl, a, u2⟩
 obtain ⟨Aa, ca, rfl⟩ := a.form
 clear y1_0 y1_1 y1_2
 revert y1 UP b0 r0 FX b0_0 b0_1 b0_2 r0_0 r0_1
 refine lg10 u2 ?_
 intro y1 UP b0 r0 FX b0_0 b0_1 b0_2 r0_0 r0_1
 replace r0_f0 := r0.free
 obtain ⟨y1_0, y1_1, y1_2⟩ := y1.c3
 clear u2
 go_wp2_with fail
 ((with_reducible refine (ratf_one _).mono ?_))
 rintro e W3 ⟨V3, rfl, o, u3⟩
 obtain ⟨Ao, co, rfl⟩ := o.form
 clear y1_0 y1_1 y1_2
 revert a y1 UP b0 r0 FX b0_0 b0_1 b0_2 r0_0 r0_1
 refine lg11 u3 ?_
 intro a y1 UP b0 r0 FX b0_0 b0_1 b0_2 r0_0 r0_1
 replace r0_f0 := r0.free
 obtain ⟨y1_0, y1_1, y1_2⟩ := y1.c3
 clear u3
 go_wp2_with fail
 have KW : Kw (W3) ((W3).setCell ⟨w.heap.size + 1, 0, none⟩ (.slice Aa R.length ca)) := Kw.store (c := (.slice none 0 0)) r0 rfl trivial _
 replace FX := FX.kw KW
 replace a := a.stored r0 (by decide) KW
 replace o := o.stored r0 (by decide) KW
 replace b0 := b0.fr (w.heap.size + 1) 0 (.slice Aa R.length ca)
 replace y1 := y1.fr (w.heap.size + 1) 0 (.slice Aa R.length ca)
 replace r0 : Bx 84 ((W3).setCell ⟨w.heap.size + 1, 0, none⟩ (.slice Aa R.length ca)) (w.heap.size + 1) [.slice Aa R.length ca, .slice none 0 0] := r0.set 0 (.slice Aa R.length ca)
 replace UP := UP.setCell (p := ⟨w.heap.size + 1, 0, none⟩) (by dsimp only; omega) (.slice Aa R.length ca)
 have KW : Kw (((W3).setCell ⟨w.heap.size + 1, 0, none⟩ (.slice Aa R.length ca))) ((((W3).setCell ⟨w.heap.size + 1, 0, none⟩ (.slice Aa R.length ca))).setCell ⟨w.heap.size + 1, 1, none⟩ (.slice Ao 1 co)) := Kw.store (c := (.slice none 0 0)) r0 rfl trivial _
 replace FX := FX.kw KW
 replace a := a.stored r0 (by decide) KW
 replace o := o.stored r0 (by decide) KW
 replace b0 := b0.fr (w.heap.size + 1) 1 (.slice Ao 1 co)
 replace y1 := y1.fr (w.heap.size + 1) 1 (.slice Ao 1 co)
 replace r0 : Bx 84 ((((W3).setCell ⟨w.heap.size + 1, 0, none⟩ (.slice Aa R.length ca))).setCell ⟨w.heap.size + 1, 1, none⟩ (.slice Ao 1 co)) (w.heap.size + 1) [.slice Aa R.length ca, .slice Ao 1 co] := r0.set 1 (.slice Ao 1 co)
 replace UP := UP.setCell (p := ⟨w.heap.size + 1, 1, none⟩) (by dsimp only; omega) (.slice Ao 1 co)
 clear KW
 generalize ((((W3).setCell ⟨w.heap.size + 1, 0, none⟩ (.slice Aa R.length ca))).setCell ⟨w.heap.size + 1, 1, none⟩ (.slice Ao 1 co)) = W4 at *
 clear b0_0 b0_1 b0_2 r0_0 r0_1 y1_0 y1_1 y1_2
 obtain ⟨b0_0, b0_1, b0_2⟩ := b0.c3
 obtain ⟨r0_0, r0_1⟩ := r0.c2
 obtain ⟨y1_0, y1_1, y1_2⟩ := y1.c3
 exact bodyPost_ret (run_res_cell rfl rfl agg_fun size_fun r0 rfl) rfl ⟨_, _, rfl, a.a, o.mono hk2, UP⟩
set_option maxRecDepth 100000 in
set_option maxHeartbeats 3200000 in
theorem ratf_line {v u : Value} {x y : Rat} {k : Nat} {w : World} (h : Fr w v x k) (h2 : Fr w u y k) (hk : k ≤ 100000) (hk2 : 2 ≤ k) {R : List Rat} (HR : Hid (Pq.nm [x, y] = R)) : Calls Tryz.prog 126 #[v, u] w (RetFA k R [1] w) := by
 obtain ⟨x0, rfl, ⟨A1, n1, c1, e1⟩, ⟨D1, p1, d1, e2⟩⟩ := (kp_fr k).form h
 obtain ⟨s1, u0, d0⟩ := x0
 simp only at e1 e2
 subst e1 e2
 obtain ⟨x0, rfl, ⟨A2, n2, c2, e1⟩, ⟨D2, p2, d2, e2⟩⟩ := (kp_fr k).form h2
 obtain ⟨s2, u0, d0⟩ := x0
 simp only at e1 e2
 subst e1 e2
 have FX : Fr w (.agg #[.bool s1, .slice A1 n1 c1, .slice D1 p1 d1]) x k := h
 have FY : Fr w (.agg #[.bool s2, .slice A2 n2 c2, .slice D2 p2 d2]) y k := h2
 clear h h2
 have HL : Hid (∀ z ∈ R, Wd.Lq z k) := Lib.hid (fun z hz => by
  rw [← HR.out] at hz
  rcases List.mem_cons.1 (Pq.nm_mem hz) with e | e
  · rw [e]; exact FX.lq
  · rw [List.mem_singleton.1 e]; exact FY.lq)
 have UP : Up w (((w.alloc (.cells #[.bool s1, .slice A1 n1 c1, .slice D1 p1 d1] 34)).alloc (.cells #[.bool s2, .slice A2 n2 c2, .slice D2 p2 d2] 34)).alloc (.cells #[.slice none 0 0, .slice none 0 0] 84)) := (((Up.refl w).alloc _).alloc _).alloc _
 obtain ⟨b0, b1, r0⟩ := bx_three 34 34 84 w [.bool s1, .slice A1 n1 c1, .slice D1 p1 d1] [.bool s2, .slice A2 n2 c2, .slice D2 p2 d2] [.slice none 0 0, .slice none 0 0]
 show Calls Tryz.prog 126 #[.agg #[.bool s1, .slice A1 n1 c1, .slice D1 p1 d1], .agg #[.bool s2, .slice A2 n2 c2, .slice D2 p2 d2]] w _
 go_enter Tryz.func126, Tryz.ntmps126
 go_upto_region 1 with fail
 generalize (((w.alloc (.cells #[.bool s1, .slice A1 n1 c1, .slice D1 p1 d1] 34)).alloc (.cells #[.bool s2, .slice A2 n2 c2, .slice D2 p2 d2] 34)).alloc (.cells #[.slice none 0 0, .slice none 0 0] 84)) = W at *
 revert FX FY
 refine lg2 UP ?_
 intro FX FY
 obtain ⟨b0_0, b0_1, b0_2⟩ := b0.c3
 obtain ⟨b1_0, b1_1, b1_2⟩ := b1.c3
 obtain ⟨r0_0, r0_1⟩ := r0.c2
 have r0_f0 := r0.free
 have b0_0a := cA b0_0
 have b0_1a := cA b0_1
 have b0_2a := cA b0_2
 have b1_0a := cA b1_0
 have b1_1a := cA b1_1
 have b1_2a := cA b1_2
 have r0_0a := cA r0_0
 have r0_f0a := r0.fa
 have r0_1a := cA r0_1
 go_wp2_with fail
 clear b0_0a b0_1a b0_2a b1_0a b1_1a b1_2a r0_0a r0_f0a r0_1a
 have y1 := Bx.new 34 W [.bool s1, .slice A1 n1 c1, .slice D1 p1 d1, .bool s2, .slice A2 n2 c2, .slice D2 p2 d2]
 have b0_lt_y1 := b0.lt
 have b1_lt_y1 := b1.lt
 have r0_lt_y1 := r0.lt
 have nu := ((Up.refl W).alloc (.cells #[.bool s1, .slice A1 n1 c1, .slice D1 p1 d1, .bool s2, .slice A2 n2 c2, .slice D2 p2 d2] 34))
 revert UP b0 b1 r0 FX FY
 revert nu
 refine lh6 ?_
 intro UP b0 b1 r0 FX FY
 generalize (W.alloc (.cells #[.bool s1, .slice A1 n1 c1, .slice D1 p1 d1, .bool s2, .slice A2 n2 c2, .slice D2 p2 d2] 34)) = W1 at *
 clear b0_0 b0_1 b0_2 b1_0 b1_1 b1_2 r0_0 r0_1
 obtain ⟨b0_0, b0_1, b0_2⟩ := b0.c3
 obtain ⟨b1_0, b1_1, b1_2⟩ := b1.c3
 obtain ⟨r0_0, r0_1⟩ := r0.c2
 replace r0_f0 := r0.free
 obtain ⟨y1_0, y1_1, y1_2, y1_3, y1_4, y1_5⟩ := y1.c6
 ((with_reducible refine (poly_norm_as (fs_two y1 FX FY) (by simp) (by omega) HR HL).mono ?_))
 rintro e W2 ⟨V2, rfl, a, u2⟩
 obtain ⟨Aa, ca, rfl⟩ := a.form
 clear y1_0 y1_1 y1_2 y1_3 y1_4 y1_5
 revert y1 UP b0 b1 r0 FX FY b0_0 b0_1 b0_2 b1_0 b1_1
 refine lg12 u2 ?_
 intro y1 UP b0 b1 r0 FX FY b0_0 b0_1 b0_2 b1_0 b1_1
 revert b1_2 r0_0 r0_1
 refine lg3 u2 ?_
 intro b1_2 r0_0 r0_1
 replace r0_f0 := r0.free
 obtain ⟨y1_0, y1_1, y1_2, y1_3, y1_4, y1_5⟩ := y1.c6
 clear u2
 go_wp2_with fail
 ((with_reducible refine (ratf_one _).mono ?_))
 rintro e W3 ⟨V3, rfl, o, u3⟩
 obtain ⟨Ao, co, rfl⟩ := o.form
 clear y1_0 y1_1 y1_2 y1_3 y1_4 y1_5
 revert a y1 UP b0 b1 r0 FX FY b0_0 b0_1 b0_2 b1_0
 refine lg12 u3 ?_
 intro a y1 UP b0 b1 r0 FX FY b0_0 b0_1 b0_2 b1_0
 revert b1_1 b1_2 r0_0 r0_1
 refine lg4 u3 ?_
 intro b1_1 b1_2 r0_0 r0_1
 replace r0_f0 := r0.free
 obtain ⟨y1_0, y1_1, y1_2, y1_3, y1_4, y1_5⟩ := y1.c6
 clear u3
 go_wp2_with fail
 have KW : Kw (W3) ((W3).setCell ⟨w.heap.size + 1 + 1, 0, none⟩ (.slice Aa R.length ca)) := Kw.store (c := (.slice none 0 0)) r0 rfl trivial _
 revert FX FY
 refine lg2 KW ?_
 intro FX FY
 replace a := a.stored r0 (by decide) KW
 replace o := o.stored r0 (by decide) KW
 replace b0 := b0.fr (w.heap.size + 1 + 1) 0 (.slice Aa R.length ca)
 replace b1 := b1.fr (w.heap.size + 1 + 1) 0 (.slice Aa R.length ca)
 replace y1 := y1.fr (w.heap.size + 1 + 1) 0 (.slice Aa R.length ca)
 replace r0 : Bx 84 ((W3).setCell ⟨w.heap.size + 1 + 1, 0, none⟩ (.slice Aa R.length ca)) (w.heap.size + 1 + 1) [.slice Aa R.length ca, .slice none 0 0] := r0.set 0 (.slice Aa R.length ca)
 replace UP := UP.setCell (p := ⟨w.heap.size + 1 + 1, 0, none⟩) (by dsimp only; omega) (.slice Aa R.length ca)
 have KW : Kw (((W3).setCell ⟨w.heap.size + 1 + 1, 0, none⟩ (.slice Aa R.length ca))) ((((W3).setCell ⟨w.heap.size + 1 + 1, 0, none⟩ (.slice Aa R.length ca))).setCell ⟨w.heap.size + 1 + 1, 1, none⟩ (.slice Ao 1 co)) := Kw.store (c := (.slice none 0 0)) r0 rfl trivial _
 revert FX FY
 refine lg2 KW ?_
 intro FX FY
 replace a := a.stored r0 (by decide) KW
 replace o := o.stored r0 (by decide) KW
 replace b0 := b0.fr (w.heap.size + 1 + 1) 1 (.slice Ao 1 co)
 replace b1 := b1.fr (w.heap.size + 1 + 1) 1 (.slice Ao 1 co)
 replace y1 := y1.fr (w.heap.size + 1 + 1) 1 (.slice Ao 1 co)
 replace r0 : Bx 84 ((((W3).setCell ⟨w.heap.size + 1 + 1, 0, none⟩ (.slice Aa R.length ca))).setCell ⟨w.heap.size + 1 + 1, 1, none⟩ (.slice Ao 1 co)) (w.heap.size + 1 + 1) [.slice Aa R.length ca, .slice Ao 1 co] := r0.set 1 (.slice Ao 1 co)
 replace UP := UP.setCell (p := ⟨w.heap.size + 1 + 1, 1, none⟩) (by dsimp only; omega) (.slice Ao 1 co)
 clear KW
 generalize ((((W3).setCell ⟨w.heap.size + 1 + 1, 0, none⟩ (.slice Aa R.length ca))).setCell ⟨w.heap.size + 1 + 1, 1, none⟩ (.slice Ao 1 co)) = W4 at *
 clear b0_0 b0_1 b0_2 b1_0 b1_1 b1_2 r0_0 r0_1 y1_0 y1_1 y1_2 y1_3 y1_4 y1_5
 obtain ⟨b0_0, b0_1, b0_2⟩ := b0.c3
 obtain ⟨b1_0, b1_1, b1_2⟩ := b1.c3
 obtain ⟨r0_0, r0_1⟩ := r0.c2
 obtain ⟨y1_0, y1_1, y1_2, y1_3, y1_4, y1_5⟩ := y1.c6
 exact bodyPost_ret (run_res_cell rfl rfl agg_fun size_fun r0 rfl) rfl ⟨_, _, rfl, a.a, o.mono hk2, UP⟩
/-- A value comes back, and whether there is one. -/
def RetEv (KE : Nat) (p q : List Rat) (z : Rat) (w : World) (e : Ending) (w' : World) : Prop := ∃ V U D, e = .returned (.tuple #[V, .bool (!decide (Pq.E D z = 0))]) ∧ Qw w' V (Pq.E U z / Pq.E D z) ∧ Hid (Pq.Can p q U D) ∧ Hid (Wd.Lq (Pq.E U z / Pq.E D z) KE) ∧ Up w w'
set_option maxRecDepth 100000 in
set_option maxHeartbeats 3200000 in
theorem ratf_eval {v u v3 : Value} {p q P D : List Rat} {z : Rat} {k kz j m K KE : Nat} {w : World} (h : FSq k w v p) (h2 : FSq k w u q) (hl : p.length ≤ m) (hl2 : q.length ≤ m) (hm1 : 1 ≤ m) (hm : m ≤ 1000) (LJ : Pq.Lp (p ++ q) j) (hK : 2 * m * (j + 1) ≤ K) (hK2 : (m + 3) * (K + 1) ≤ 3000000) (hk2 : 2 ≤ k) (hka : k ≤ 2000000) (HP : Hid (Pq.pu p q = P)) (HD : Hid (Pq.pd p q = D))
 (hz : Fr w v3 z kz) (hKE : m * (kz + K + 1) + 2 + (m * (kz + K + 1) + 2) ≤ KE) (hKE2 : KE ≤ 4000000) (hkz : kz ≤ 100000) :
 Calls Tryz.prog 66 #[.agg #[v, u], v3] w (RetEv KE P D z w) := by
 obtain ⟨A, c, rfl⟩ := h.form
 obtain ⟨B, d, rfl⟩ := h2.form
 obtain ⟨x0, rfl, ⟨A3, n3, c3, e1⟩, ⟨D3, p3, d3, e2⟩⟩ := (kp_fr kz).form hz
 obtain ⟨s3, u0, d0⟩ := x0
 simp only at e1 e2
 subst e1 e2
 have FZ : Fr w (.agg #[.bool s3, .slice A3 n3 c3, .slice D3 p3 d3]) z kz := hz
 clear hz
 have lP : P.length ≤ m := by rw [← HP.out]; exact Nat.le_trans (Pq.pu_len p q) hl
 have lD : D.length ≤ m := by rw [← HD.out]; have := Pq.pd_len p q; omega
 have DN : Hid (Pq.nm D ≠ []) := Lib.hid (by rw [← HD.out]; exact Pq.pd_ne p q)
 have HKE : Hid (∀ n, n ≤ m → n * (kz + K + 1) + 2 ≤ m * (kz + K + 1) + 2) := Lib.hid (fun n hn => by
  have := Nat.mul_le_mul_right (kz + K + 1) hn
  omega)
 have hK9 : K ≤ 1500000 := by
  have h3 : 4 * (K + 1) ≤ (m + 3) * (K + 1) := Nat.mul_le_mul_right _ (by omega)
  omega
 have UP : Up w (((w.alloc (.cells #[.slice A p.length c, .slice B q.length d] 84)).alloc (.cells #[.bool s3, .slice A3 n3 c3, .slice D3 p3 d3] 34)).alloc (.cells #[.bool false, .slice none 0 0, .slice none 0 0] 34)) := (((Up.refl w).alloc _).alloc _).alloc _
 obtain ⟨b0, b1, r0⟩ := bx_three 84 34 34 w [.slice A p.length c, .slice B q.length d] [.bool s3, .slice A3 n3 c3, .slice D3 p3 d3] [.bool false, .slice none 0 0, .slice none 0 0]
 show Calls Tryz.prog 66 #[.agg #[.slice A p.length c, .slice B q.length d], .agg #[.bool s3, .slice A3 n3 c3, .slice D3 p3 d3]] w _
 go_enter Tryz.func66, Tryz.ntmps66
 go_wp2_with fail
 generalize (((w.alloc (.cells #[.slice A p.length c, .slice B q.length d] 84)).alloc (.cells #[.bool s3, .slice A3 n3 c3, .slice D3 p3 d3] 34)).alloc (.cells #[.bool false, .slice none 0 0, .slice none 0 0] 34)) = W at *
 refine li3 UP h h2 FZ ?_
 clear h h2 FZ
 intro h h2 FZ
 obtain ⟨b0_0, b0_1⟩ := b0.c2
 obtain ⟨b1_0, b1_1, b1_2⟩ := b1.c3
 obtain ⟨r0_0, r0_1, r0_2⟩ := r0.c3
 have r0_f0 := r0.free
 go_wp2_with fail
 ((with_reducible refine (ratf_norm h h2 hl hl2 hm1 hm LJ hK hK2 hk2 hka HP HD).mono ?_))
 rintro e W1 ⟨V1, U1, psa, qsa, rfl, a, b, caa, lpa, lea, u1⟩
 obtain ⟨Aa, ca, rfl⟩ := a.form
 obtain ⟨Ab, cb, rfl⟩ := b.form
 revert UP b0 b1 r0 h h2 FZ b0_0 b0_1 b1_0 b1_1 b1_2
 refine lg12 u1 ?_
 intro UP b0 b1 r0 h h2 FZ b0_0 b0_1 b1_0 b1_1 b1_2
 revert r0_0 r0_1 r0_2
 refine lg3 u1 ?_
 intro r0_0 r0_1 r0_2
 replace r0_f0 := r0.free
 clear u1
 clear h h2
 have la : psa.length ≤ m := lea.out.1
 have lb : qsa.length ≤ m := lea.out.2
 have fa := a.fs
 have fb := b.fs
 clear a b
 have e1 := HKE.out _ la
 have e2 := HKE.out _ lb
 obtain ⟨EX, HEX⟩ : ∃ y, Hid (Pq.E psa z = y) := ⟨_, Lib.hid rfl⟩
 obtain ⟨EY, HEY⟩ : ∃ y, Hid (Pq.E qsa z = y) := ⟨_, Lib.hid rfl⟩
 have LEX : Wd.Lq EX (m * (kz + K + 1) + 2) := by rw [← HEX.out]; exact (lq_eval FZ.lq psa fa.lq).mono e1
 have LEY : Wd.Lq EY (m * (kz + K + 1) + 2) := by rw [← HEY.out]; exact (lq_eval FZ.lq qsa fb.lq).mono e2
 obtain ⟨Q, HQ⟩ : ∃ y, Hid (EX / EY = y) := ⟨_, Lib.hid rfl⟩
 have LQ : Wd.Lq Q KE := by rw [← HQ.out]; exact (LEX.div LEY).mono hKE
 have b0_0a := cA b0_0
 have b0_1a := cA b0_1
 have b1_0a := cA b1_0
 have b1_1a := cA b1_1
 have b1_2a := cA b1_2
 have r0_0a := cA r0_0
 have r0_f0a := r0.fa
 have r0_1a := cA r0_1
 have r0_2a := cA r0_2
 go_wp2_with fail
 clear b0_0a b0_1a b1_0a b1_1a b1_2a r0_0a r0_f0a r0_1a r0_2a
 have x6 := Bx.new 84 W1 [.slice Aa psa.length ca, .slice Ab qsa.length cb]
 have b0_lt_x6 := b0.lt
 have b1_lt_x6 := b1.lt
 have r0_lt_x6 := r0.lt
 have nu := ((Up.refl W1).alloc (.cells #[.slice Aa psa.length ca, .slice Ab qsa.length cb] 84))
 revert UP b0 b1 r0 FZ fa fb
 revert nu
 refine lh7 ?_
 intro UP b0 b1 r0 FZ fa fb
 generalize (W1.alloc (.cells #[.slice Aa psa.length ca, .slice Ab qsa.length cb] 84)) = W2 at *
 clear b0_0 b0_1 b1_0 b1_1 b1_2 r0_0 r0_1 r0_2
 obtain ⟨b0_0, b0_1⟩ := b0.c2
 obtain ⟨b1_0, b1_1, b1_2⟩ := b1.c3
 obtain ⟨r0_0, r0_1, r0_2⟩ := r0.c3
 replace r0_f0 := r0.free
 obtain ⟨x6_0, x6_1⟩ := x6.c2
 clear x6_0 x6_1
 revert x6 UP b0 b1 r0 FZ fa fb b0_0 b0_1 b1_0 b1_1
 refine lg12 (Up.refl W2).drew ?_
 intro x6 UP b0 b1 r0 FZ fa fb b0_0 b0_1 b1_0 b1_1
 revert b1_2
 refine lg1 (Up.refl W2).drew ?_
 intro b1_2
 obtain ⟨r0_0, r0_1, r0_2⟩ := r0.c3
 have r0_f0 := r0.free
 obtain ⟨x6_0, x6_1⟩ := x6.c2
 refine wp_region_noPanic ?_
 refine wp_region_held_drew (S := fun w' => Up w w' ∧ w'.cell? ⟨w.heap.size + 1, 0, none⟩ = some (.bool s3) ∧ w'.cell? ⟨w.heap.size + 1, 1, none⟩ = some (.slice A3 n3 c3) ∧ w'.cell? ⟨w.heap.size + 1, 2, none⟩ = some (.slice D3 p3 d3) ∧ w'.cell? ⟨W1.heap.size, 0, none⟩ = some (.slice Aa psa.length ca) ∧ w'.cell? ⟨W1.heap.size, 1, none⟩ = some (.slice Ab qsa.length cb)) (by kernel_rfl) ?_ (fun hHeld => ?_)
 · with_reducible exact ⟨UP, b1_0, b1_1, b1_2, x6_0, x6_1⟩
 refine tk 0 ?_
 try simp only [gs, Act.put]
 refine tk 1 ?_
 try simp only [gs, Act.put]
 refine tk 2 ?_
 try simp only [gs, Act.put]
 refine tk 4 ?_
 try simp only [gs, Act.put]
 refine tk 5 ?_
 try simp only [gs, Act.put]
 refine tk 6 ?_
 try simp only [gs, Act.put]
 refine rd 3 (fun K hK => ?_)
 go_simp
 (first
   | (go_at_call 33
      ((with_reducible refine (poly_eval FZ fa.sq (by omega) (by omega) (by omega) (by omega)).mono ?_))
      rintro e W3 ⟨V3, rfl, a1, u3⟩
      clear x6_0 x6_1; revert x6 UP b0 b1 r0 FZ fa fb b0_0 b0_1 b1_0 b1_1; refine lg12 u3 ?_; intro x6 UP b0 b1 r0 FZ fa fb b0_0 b0_1 b1_0 b1_1; revert b1_2 r0_0 r0_1 r0_2; refine lg4 u3 ?_; intro b1_2 r0_0 r0_1 r0_2
      try (replace a1 := a1.up u3)
      try (replace a2 := a2.up u3)
      try (replace a3 := a3.up u3)
      replace r0_f0 := r0.free
      obtain ⟨x6_0, x6_1⟩ := x6.c2
      clear u3
      rw [HEX.out] at a1))
 try go_wp2_with fail
 try clear hHeld
 refine hK.out _ _ ?_ (fun hHeld => ?_)
 · with_reducible exact ⟨UP, b1_0, b1_1, b1_2, x6_0, x6_1⟩
 clear hK K
 try simp only [gs, Act.put]
 refine rd 7 (fun K hK => ?_)
 go_simp
 (first
   | (go_at_call 33
      ((with_reducible refine (poly_eval FZ fb.sq (by omega) (by omega) (by omega) (by omega)).mono ?_))
      rintro e W4 ⟨V4, rfl, a2, u4⟩
      clear x6_0 x6_1; revert x6 UP b0 b1 r0 FZ fa fb b0_0 b0_1 b1_0 b1_1; refine lg12 u4 ?_; intro x6 UP b0 b1 r0 FZ fa fb b0_0 b0_1 b1_0 b1_1; revert b1_2 r0_0 r0_1 r0_2; refine lg4 u4 ?_; intro b1_2 r0_0 r0_1 r0_2
      try (replace a1 := a1.up u4)
      try (replace a2 := a2.up u4)
      try (replace a3 := a3.up u4)
      replace r0_f0 := r0.free
      obtain ⟨x6_0, x6_1⟩ := x6.c2
      clear u4
      rw [HEY.out] at a2))
 try go_wp2_with fail
 try clear hHeld
 refine hK.out _ _ ?_ (fun hHeld => ?_)
 · with_reducible exact ⟨UP, b1_0, b1_1, b1_2, x6_0, x6_1⟩
 clear hK K
 try simp only [gs, Act.put]
 refine rd 8 (fun K hK => ?_)
 go_simp
 (first
   | (go_at_call 116
      ((with_reducible refine (frac_quo (a1.fr LEX) (a2.fr LEY) (by omega) (by omega)).mono ?_))
      rintro e W5 ⟨V5, rfl, a3, u5⟩
      clear x6_0 x6_1; revert x6 UP b0 b1 r0 FZ fa fb b0_0 b0_1 b1_0 b1_1; refine lg12 u5 ?_; intro x6 UP b0 b1 r0 FZ fa fb b0_0 b0_1 b1_0 b1_1; revert b1_2 r0_0 r0_1 r0_2; refine lg4 u5 ?_; intro b1_2 r0_0 r0_1 r0_2
      try (replace a1 := a1.up u5)
      try (replace a2 := a2.up u5)
      try (replace a3 := a3.up u5)
      replace r0_f0 := r0.free
      obtain ⟨x6_0, x6_1⟩ := x6.c2
      clear u5
      rw [HQ.out] at a3
      obtain ⟨Xa3, Ya3, rfl, a3, a3d⟩ := a3
      obtain ⟨Aa3, na3, ca3, rfl⟩ := a3.shape
      obtain ⟨Aa3d, na3d, ca3d, rfl⟩ := a3d.shape))
 try go_wp2_with fail
 try clear hHeld
 refine hK.out _ _ ?_ (fun hHeld => ?_)
 · with_reducible exact ⟨UP, b1_0, b1_1, b1_2, x6_0, x6_1⟩
 clear hK K
 try simp only [gs, Act.put]
 refine tk 9 ?_
 try simp only [gs, Act.put]
 refine tk 10 ?_
 try simp only [gs, Act.put]
 refine rd 11 (fun K hK => ?_)
 go_simp
 skip
 try go_wp2_with fail
 try clear hHeld
 refine hK.out _ _ ?_ (fun hHeld => ?_)
 · (first | with_reducible exact ⟨UP, b1_0, b1_1, b1_2, x6_0, x6_1⟩ | with_reducible exact ⟨(us (us (us UP))), (cf (cf (cf b1_0))), (cf (cf (cf b1_1))), (cf (cf (cf b1_2))), (cf (cf (cf x6_0))), (cf (cf (cf x6_1)))⟩)
 clear hK K
 try simp only [gs, Act.put]
 refine rd 12 (fun K hK => ?_)
 go_simp
 skip
 try go_wp2_with fail
 try clear hHeld
 refine hK.out _ _ ?_ (fun hHeld => ?_)
 · (first | with_reducible exact ⟨UP, b1_0, b1_1, b1_2, x6_0, x6_1⟩ | with_reducible exact ⟨(us (us (us UP))), (cf (cf (cf b1_0))), (cf (cf (cf b1_1))), (cf (cf (cf b1_2))), (cf (cf (cf x6_0))), (cf (cf (cf x6_1)))⟩)
 clear hK K
 try simp only [gs, Act.put]
 refine wpAnyH_done (by kernel_rfl) ?_ _
 refine NoPanic.normal ?_
 clear hHeld
 clear fa fb
 have KW : Kw (W5) ((W5).setCell ⟨w.heap.size + 1 + 1, 0, none⟩ (.bool (Wd.ngb Q.num))) := Kw.store (c := (.bool false)) r0 rfl trivial _
 refine li5 KW FZ a1 a2 a3 a3d ?_
 clear FZ a1 a2 a3 a3d
 intro FZ a1 a2 a3 a3d
 replace b0 := b0.fr (w.heap.size + 1 + 1) 0 (.bool (Wd.ngb Q.num))
 replace b1 := b1.fr (w.heap.size + 1 + 1) 0 (.bool (Wd.ngb Q.num))
 replace x6 := x6.fr (w.heap.size + 1 + 1) 0 (.bool (Wd.ngb Q.num))
 replace r0 : Bx 34 ((W5).setCell ⟨w.heap.size + 1 + 1, 0, none⟩ (.bool (Wd.ngb Q.num))) (w.heap.size + 1 + 1) [.bool (Wd.ngb Q.num), .slice none 0 0, .slice none 0 0] := r0.set 0 (.bool (Wd.ngb Q.num))
 replace UP := UP.setCell (p := ⟨w.heap.size + 1 + 1, 0, none⟩) (by dsimp only; omega) (.bool (Wd.ngb Q.num))
 have KW : Kw (((W5).setCell ⟨w.heap.size + 1 + 1, 0, none⟩ (.bool (Wd.ngb Q.num)))) ((((W5).setCell ⟨w.heap.size + 1 + 1, 0, none⟩ (.bool (Wd.ngb Q.num)))).setCell ⟨w.heap.size + 1 + 1, 1, none⟩ (.slice Aa3 na3 ca3)) := Kw.store (c := (.slice none 0 0)) r0 rfl trivial _
 revert FZ a1 a2 a3 a3d
 refine lg5 KW ?_
 intro FZ a1 a2 a3 a3d
 replace b0 := b0.fr (w.heap.size + 1 + 1) 1 (.slice Aa3 na3 ca3)
 replace b1 := b1.fr (w.heap.size + 1 + 1) 1 (.slice Aa3 na3 ca3)
 replace x6 := x6.fr (w.heap.size + 1 + 1) 1 (.slice Aa3 na3 ca3)
 replace r0 : Bx 34 ((((W5).setCell ⟨w.heap.size + 1 + 1, 0, none⟩ (.bool (Wd.ngb Q.num)))).setCell ⟨w.heap.size + 1 + 1, 1, none⟩ (.slice Aa3 na3 ca3)) (w.heap.size + 1 + 1) [.bool (Wd.ngb Q.num), .slice Aa3 na3 ca3, .slice none 0 0] := r0.set 1 (.slice Aa3 na3 ca3)
 replace UP := UP.setCell (p := ⟨w.heap.size + 1 + 1, 1, none⟩) (by dsimp only; omega) (.slice Aa3 na3 ca3)
 have KW : Kw (((((W5).setCell ⟨w.heap.size + 1 + 1, 0, none⟩ (.bool (Wd.ngb Q.num)))).setCell ⟨w.heap.size + 1 + 1, 1, none⟩ (.slice Aa3 na3 ca3))) ((((((W5).setCell ⟨w.heap.size + 1 + 1, 0, none⟩ (.bool (Wd.ngb Q.num)))).setCell ⟨w.heap.size + 1 + 1, 1, none⟩ (.slice Aa3 na3 ca3))).setCell ⟨w.heap.size + 1 + 1, 2, none⟩ (.slice Aa3d na3d ca3d)) := Kw.store (c := (.slice none 0 0)) r0 rfl trivial _
 revert FZ a1 a2 a3 a3d
 refine lg5 KW ?_
 intro FZ a1 a2 a3 a3d
 replace b0 := b0.fr (w.heap.size + 1 + 1) 2 (.slice Aa3d na3d ca3d)
 replace b1 := b1.fr (w.heap.size + 1 + 1) 2 (.slice Aa3d na3d ca3d)
 replace x6 := x6.fr (w.heap.size + 1 + 1) 2 (.slice Aa3d na3d ca3d)
 replace r0 : Bx 34 ((((((W5).setCell ⟨w.heap.size + 1 + 1, 0, none⟩ (.bool (Wd.ngb Q.num)))).setCell ⟨w.heap.size + 1 + 1, 1, none⟩ (.slice Aa3 na3 ca3))).setCell ⟨w.heap.size + 1 + 1, 2, none⟩ (.slice Aa3d na3d ca3d)) (w.heap.size + 1 + 1) [.bool (Wd.ngb Q.num), .slice Aa3 na3 ca3, .slice Aa3d na3d ca3d] := r0.set 2 (.slice Aa3d na3d ca3d)
 replace UP := UP.setCell (p := ⟨w.heap.size + 1 + 1, 2, none⟩) (by dsimp only; omega) (.slice Aa3d na3d ca3d)
 clear KW
 generalize ((((((W5).setCell ⟨w.heap.size + 1 + 1, 0, none⟩ (.bool (Wd.ngb Q.num)))).setCell ⟨w.heap.size + 1 + 1, 1, none⟩ (.slice Aa3 na3 ca3))).setCell ⟨w.heap.size + 1 + 1, 2, none⟩ (.slice Aa3d na3d ca3d)) = W6 at *
 clear b0_0 b0_1 b1_0 b1_1 b1_2 r0_0 r0_1 r0_2 x6_0 x6_1
 obtain ⟨b0_0, b0_1⟩ := b0.c2
 obtain ⟨b1_0, b1_1, b1_2⟩ := b1.c3
 obtain ⟨r0_0, r0_1, r0_2⟩ := r0.c3
 obtain ⟨x6_0, x6_1⟩ := x6.c2
 go_wp2_with fail
 exact bodyPost_ret (run_res_cell_tmp rfl rfl agg_frac size_frac r0 rfl) rfl ⟨_, psa, qsa, by rw [HEY.out]; rfl, by rw [HEX.out, HEY.out, HQ.out]; exact qw_of a3 a3d, caa, Lib.hid (by rw [HEX.out, HEY.out, HQ.out]; exact LQ), UP⟩
set_option maxRecDepth 100000 in
set_option maxHeartbeats 3200000 in
theorem ratf_diff {v u : Value} {p q P D : List Rat} {k j m K : Nat} {w : World} (h : FSq k w v p) (h2 : FSq k w u q) (hl : p.length ≤ m) (hl2 : q.length ≤ m) (hm1 : 1 ≤ m) (LJ : Pq.Lp (p ++ q) j) (mo : Nat) (hmo : m + m ≤ mo + 1) (hm : mo ≤ 1000) (hK : 2 * mo * (j + j + 2) ≤ K) (hK2 : (mo + 3) * (K + 1) ≤ 3000000) (hk2 : 2 ≤ k) (hka : k ≤ 2000000) (HP : Hid (Pq.pu p q = P)) (HD : Hid (Pq.pd p q = D)) :
 Calls Tryz.prog 74 #[.agg #[v, u]] w (RetFn K mo (Pq.du P D) (Pq.nm (Pq.mul D D)) w) := by
 obtain ⟨A, c, rfl⟩ := h.form
 obtain ⟨B, d, rfl⟩ := h2.form
 have lP : P.length ≤ m := by rw [← HP.out]; exact Nat.le_trans (Pq.pu_len p q) hl
 have lD : D.length ≤ m := by rw [← HD.out]; have := Pq.pd_len p q; omega
 have LPD : Hid (Pq.Lp (P ++ D) j) := Lib.hid (by rw [← HP.out, ← HD.out]; exact Pq.pud_lp LJ)
 have DN : Hid (Pq.nm D ≠ []) := Lib.hid (by rw [← HD.out]; exact Pq.pd_ne p q)
 have hjj : j + j + 2 ≤ 1500000 := by
  have h1 : 1 * (j + j + 2) ≤ 2 * mo * (j + j + 2) := Nat.mul_le_mul_right _ (by omega)
  have h3 : 4 * (K + 1) ≤ (mo + 3) * (K + 1) := Nat.mul_le_mul_right _ (by omega)
  omega
 have hj3 : 2 * (j + j + 2) ≤ K := by
  have h1 : 2 * (j + j + 2) ≤ 2 * mo * (j + j + 2) := Nat.mul_le_mul_right _ (by omega)
  omega
 have LS := Lib.hid (Pq.lp_der LPD.out (by omega) (by omega))
 have DN2 : Hid (Pq.nm (Pq.nm (Pq.mul D D)) ≠ []) := Lib.hid (Pq.nmul_ne DN.out DN.out)
 have lF1 : (Pq.nm (Pq.df P)).length ≤ m := Nat.le_trans (Pq.nm_len _) (by rw [Pq.df_len]; omega)
 have lF2 : (Pq.nm (Pq.df D)).length ≤ m := Nat.le_trans (Pq.nm_len _) (by rw [Pq.df_len]; omega)
 have LF1 := Lib.hid (Lp.df LPD.out.fst (by omega)).nm
 have LF2 := Lib.hid (Lp.df LPD.out.snd (by omega)).nm
 have lM1 := Pq.nm_mul_len (Pq.nm (Pq.df P)) D
 have lM2 := Pq.nm_mul_len P (Pq.nm (Pq.df D))
 have lM3 := Pq.nm_mul_len D D
 have LM1 := Lib.hid (LF1.out.mul LPD.out.snd (by omega))
 have LM2 := Lib.hid (LPD.out.fst.mul LF2.out (by omega))
 have LDD := Lib.hid LS.out.snd.lq
 have LSS := Lib.hid LS.out.fst.lq
 have HDU : Hid (Pq.nm (Pq.sub (Pq.nm (Pq.mul (Pq.nm (Pq.df P)) D)) (Pq.nm (Pq.mul P (Pq.nm (Pq.df D))))) = Pq.du P D) := Lib.hid rfl
 have lS : (Pq.du P D).length ≤ mo := Nat.le_trans (Pq.nm_len _) (by unfold Pq.sub; rw [Pq.add_len, Pq.sc_len]; omega)
 obtain ⟨F1, HF1⟩ : ∃ r, Hid (Pq.nm (Pq.df P) = r) := ⟨_, Lib.hid rfl⟩
 obtain ⟨F2, HF2⟩ : ∃ r, Hid (Pq.nm (Pq.df D) = r) := ⟨_, Lib.hid rfl⟩
 rw [HF1.out] at lF1 LF1 lM1 LM1 HDU
 rw [HF2.out] at lF2 LF2 lM2 LM2 HDU
 obtain ⟨M1, HM1⟩ : ∃ r, Hid (Pq.nm (Pq.mul F1 D) = r) := ⟨_, Lib.hid rfl⟩
 obtain ⟨M2, HM2⟩ : ∃ r, Hid (Pq.nm (Pq.mul P F2) = r) := ⟨_, Lib.hid rfl⟩
 obtain ⟨M3, HM3⟩ : ∃ r, Hid (Pq.nm (Pq.mul D D) = r) := ⟨_, Lib.hid rfl⟩
 obtain ⟨S, HS⟩ : ∃ r, Hid (Pq.du P D = r) := ⟨_, Lib.hid rfl⟩
 rw [HM1.out] at lM1 LM1 HDU
 rw [HM2.out] at lM2 LM2 HDU
 rw [HM3.out] at LS DN2 lM3 LDD ⊢
 rw [HS.out] at LS lS LSS HDU ⊢
 have LQ1 := Lib.hid LM1.out.lq
 have LQ2 := Lib.hid LM2.out.lq
 have LFQ1 := Lib.hid LF1.out.lq
 have LFQ2 := Lib.hid LF2.out.lq
 have UP : Up w ((w.alloc (.cells #[.slice A p.length c, .slice B q.length d] 84)).alloc (.cells #[.slice none 0 0, .slice none 0 0] 84)) := ((Up.refl w).alloc _).alloc _
 obtain ⟨b0, r0⟩ := bx_two 84 84 w [.slice A p.length c, .slice B q.length d] [.slice none 0 0, .slice none 0 0]
 go_enter Tryz.func74, Tryz.ntmps74
 go_wp2_with fail
 generalize ((w.alloc (.cells #[.slice A p.length c, .slice B q.length d] 84)).alloc (.cells #[.slice none 0 0, .slice none 0 0] 84)) = W at *
 revert h h2
 refine lg2 UP ?_
 intro h h2
 obtain ⟨b0_0, b0_1⟩ := b0.c2
 obtain ⟨r0_0, r0_1⟩ := r0.c2
 have r0_f0 := r0.free
 go_wp2_with fail
 ((with_reducible refine (ratf_parts h h2 (by omega) (by omega) hk2 HP HD).mono ?_))
 rintro e W1 ⟨V1, U1, rfl, x, y, u1⟩
 obtain ⟨Ax, cx, rfl⟩ := x.form
 obtain ⟨Ay, cy, rfl⟩ := y.form
 revert UP b0 r0 h h2 b0_0 b0_1 r0_0 r0_1
 refine lg9 u1 ?_
 intro UP b0 r0 h h2 b0_0 b0_1 r0_0 r0_1
 replace r0_f0 := r0.free
 clear u1
 clear h h2
 go_wp2_with fail
 ((with_reducible refine (poly_diff_as x (by omega) (by omega) HF1 LFQ1).mono ?_))
 rintro e W2 ⟨V2, rfl, f1, u2⟩
 obtain ⟨Af1, cf1, rfl⟩ := f1.form
 revert x y UP b0 r0 b0_0 b0_1 r0_0 r0_1
 refine lg9 u2 ?_
 intro x y UP b0 r0 b0_0 b0_1 r0_0 r0_1
 replace r0_f0 := r0.free
 clear u2
 go_wp2_with fail
 ((with_reducible refine (poly_mul_as (j + 1) j f1.fs y LF1.out LPD.out.snd (by omega) (by omega) (by omega) (by omega) (by omega) HM1 LQ1).mono ?_))
 rintro e W3 ⟨V3, rfl, a1, u3⟩
 obtain ⟨Aa1, ca1, rfl⟩ := a1.form
 revert f1 x y UP b0 r0 b0_0 b0_1 r0_0 r0_1
 refine lg10 u3 ?_
 intro f1 x y UP b0 r0 b0_0 b0_1 r0_0 r0_1
 replace r0_f0 := r0.free
 clear u3
 go_wp2_with fail
 ((with_reducible refine (poly_diff_as y (by omega) (by omega) HF2 LFQ2).mono ?_))
 rintro e W4 ⟨V4, rfl, f2, u4⟩
 obtain ⟨Af2, cf2, rfl⟩ := f2.form
 revert a1 f1 x y UP b0 r0 b0_0 b0_1 r0_0 r0_1
 refine lg11 u4 ?_
 intro a1 f1 x y UP b0 r0 b0_0 b0_1 r0_0 r0_1
 replace r0_f0 := r0.free
 clear u4
 go_wp2_with fail
 ((with_reducible refine (poly_mul_as j (j + 1) x f2.fs LPD.out.fst LF2.out (by omega) (by omega) (by omega) (by omega) (by omega) HM2 LQ2).mono ?_))
 rintro e W5 ⟨V5, rfl, a2, u5⟩
 obtain ⟨Aa2, ca2, rfl⟩ := a2.form
 revert f2 a1 f1 x y UP b0 r0 b0_0 b0_1 r0_0 r0_1
 refine lg12 u5 ?_
 intro f2 a1 f1 x y UP b0 r0 b0_0 b0_1 r0_0 r0_1
 replace r0_f0 := r0.free
 clear u5
 clear f1 f2 x
 go_wp2_with fail
 ((with_reducible refine (poly_sub_as (j + 1 + j + 1) (j + (j + 1) + 1) a1.fs a2.fs LM1.out LM2.out (by omega) (by omega) (by omega) (by omega) HDU LSS).mono ?_))
 rintro e W6 ⟨V6, rfl, a3, u6⟩
 obtain ⟨Aa3, ca3, rfl⟩ := a3.form
 revert a2 a1 y UP b0 r0 b0_0 b0_1 r0_0 r0_1
 refine lg10 u6 ?_
 intro a2 a1 y UP b0 r0 b0_0 b0_1 r0_0 r0_1
 replace r0_f0 := r0.free
 clear u6
 clear a1 a2
 go_wp2_with fail
 ((with_reducible refine (poly_mul_as j j y y LPD.out.snd LPD.out.snd (by omega) (by omega) (by omega) (by omega) (by omega) HM3 LDD).mono ?_))
 rintro e W7 ⟨V7, rfl, a4, u7⟩
 obtain ⟨Aa4, ca4, rfl⟩ := a4.form
 revert a3 y UP b0 r0 b0_0 b0_1 r0_0 r0_1
 refine lg9 u7 ?_
 intro a3 y UP b0 r0 b0_0 b0_1 r0_0 r0_1
 replace r0_f0 := r0.free
 clear u7
 go_wp2_with fail
 ((with_reducible refine (ratf_cancel (ka := j + j + 1) a3.fs a4.fs DN2 lS (by omega) hm LS.out hK hK2 (by omega)).mono ?_))
 rintro e W8 ⟨V8, U8, psa, qsa, rfl, a, b, caa, lpa, lea, u8⟩
 obtain ⟨Aa, ca, rfl⟩ := a.form
 obtain ⟨Ab, cb, rfl⟩ := b.form
 revert a4 a3 y UP b0 r0 b0_0 b0_1 r0_0 r0_1
 refine lg10 u8 ?_
 intro a4 a3 y UP b0 r0 b0_0 b0_1 r0_0 r0_1
 replace r0_f0 := r0.free
 clear u8
 clear y a3 a4
 go_wp2_with fail
 have KW : Kw (W8) ((W8).setCell ⟨w.heap.size + 1, 0, none⟩ (.slice Aa psa.length ca)) := Kw.store (c := (.slice none 0 0)) r0 rfl trivial _
 replace a := a.stored r0 (by decide) KW
 replace b := b.stored r0 (by decide) KW
 replace b0 := b0.fr (w.heap.size + 1) 0 (.slice Aa psa.length ca)
 replace r0 : Bx 84 ((W8).setCell ⟨w.heap.size + 1, 0, none⟩ (.slice Aa psa.length ca)) (w.heap.size + 1) [.slice Aa psa.length ca, .slice none 0 0] := r0.set 0 (.slice Aa psa.length ca)
 replace UP := UP.setCell (p := ⟨w.heap.size + 1, 0, none⟩) (by dsimp only; omega) (.slice Aa psa.length ca)
 have KW : Kw (((W8).setCell ⟨w.heap.size + 1, 0, none⟩ (.slice Aa psa.length ca))) ((((W8).setCell ⟨w.heap.size + 1, 0, none⟩ (.slice Aa psa.length ca))).setCell ⟨w.heap.size + 1, 1, none⟩ (.slice Ab qsa.length cb)) := Kw.store (c := (.slice none 0 0)) r0 rfl trivial _
 replace a := a.stored r0 (by decide) KW
 replace b := b.stored r0 (by decide) KW
 replace b0 := b0.fr (w.heap.size + 1) 1 (.slice Ab qsa.length cb)
 replace r0 : Bx 84 ((((W8).setCell ⟨w.heap.size + 1, 0, none⟩ (.slice Aa psa.length ca))).setCell ⟨w.heap.size + 1, 1, none⟩ (.slice Ab qsa.length cb)) (w.heap.size + 1) [.slice Aa psa.length ca, .slice Ab qsa.length cb] := r0.set 1 (.slice Ab qsa.length cb)
 replace UP := UP.setCell (p := ⟨w.heap.size + 1, 1, none⟩) (by dsimp only; omega) (.slice Ab qsa.length cb)
 clear KW
 generalize ((((W8).setCell ⟨w.heap.size + 1, 0, none⟩ (.slice Aa psa.length ca))).setCell ⟨w.heap.size + 1, 1, none⟩ (.slice Ab qsa.length cb)) = W9 at *
 clear b0_0 b0_1 r0_0 r0_1
 obtain ⟨b0_0, b0_1⟩ := b0.c2
 obtain ⟨r0_0, r0_1⟩ := r0.c2
 exact bodyPost_ret (run_res_cell rfl rfl agg_fun size_fun r0 rfl) rfl ⟨_, _, _, _, rfl, a, b, caa, lpa, lea, UP⟩
end Go.Proofs.YtmmcffceeahemaaGreat
