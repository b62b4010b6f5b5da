/-
  Layer 15: powers.
-/
import Derived.Test.YtmmcffceeahemaaGreatZsRatfNew
import Derived.Test.YtmmcffceeahemaaGreatZsRatfPowMath
import Derived.Test.YtmmcffceeahemaaGreatZsLowProd
import Derived.Test.YtmmcffceeahemaaGreatZsShort
set_option linter.unusedVariables false
set_option linter.unusedSimpArgs false
namespace Go.Proofs.YtmmcffceeahemaaGreat
open Go.RowKit
/-- Rows come back, given, and a Bool. -/
def RetAAB (t : Bool) (K : Nat) (P Q : List Rat) (w : World) (e : Ending) (w' : World) : Prop := ∃ V U, e = .returned (.tuple #[.agg #[V, U], .bool t]) ∧ ARow K w' V P ∧ ARow K w' U Q ∧ Up w w'
set_option maxRecDepth 100000 in
set_option maxHeartbeats 12800000 in
theorem ratf_pow {v u : Value} {p q P D U E0 : List Rat} {w : World} {e : Int} (h : FSq 2 w v p) (h2 : FSq 2 w u q) (lp : p.length ≤ 3) (lq : q.length ≤ 3) (LJ : Hid (Pq.Lp (p ++ q) 7)) (HP : Hid (Pq.pu p q = P)) (HD : Hid (Pq.pd p q = D)) (DN : Hid (Pq.nm D ≠ [])) (HC : Hid (Pq.Can P D U E0)) (lU : U.length ≤ 3) (lE : E0.length ≤ 3) (LU : Hid (Pq.Lp (U ++ E0) 48)) (he : -9223372036854775808 ≤ e ∧ e ≤ 9223372036854775807) (hin : e < -8 ∨ 8 < e ∨ -3 ≤ e ∧ e ≤ 3)
 {RU RD : List Rat} {t : Bool} (HRT : Hid (Pq.pwB U e = t)) (HRU : Hid (Pq.pwU U E0 e = RU)) (HRD : Hid (Pq.pwD U E0 e = RD)) :
 Calls Tryz.prog 79 #[.agg #[v, u], .int .i64 e] w (RetAAB t 3000 RU RD w) := by
 obtain ⟨A, c, rfl⟩ := h.form
 obtain ⟨B, d, rfl⟩ := h2.form
 have HH := Lib.hid h
 have HH2 := Lib.hid h2
 clear h h2
 have HZ0 := Lib.hid (HC.out.zero DN.out)
 by_cases hok : Pq.pwB U e = true
 rotate_left
 · have hno : Pq.pwB U e = false := by simpa using hok
   have HR : Hid (RU = [] ∧ RD = [1] ∧ t = false) := Lib.hid ⟨by rw [← HRU.out]; unfold Pq.pwU; rw [hno]; rfl, by rw [← HRD.out]; unfold Pq.pwD; rw [hno]; rfl, by rw [← HRT.out]; exact hno⟩
   unfold Pq.pwB at hno
   have hno := of_decide_eq_false hno
   clear hok
   by_cases c1 : e < -8
   · clear hno
     have UP : Up w ((w.alloc (.cells #[.slice A p.length c, .slice B q.length d] 84)).alloc (.cells #[.slice none 0 0, .slice none 0 0] 84)) := ((Up.refl w).alloc _).alloc _
     obtain ⟨b0, r0⟩ := bx_two 84 84 w [.slice A p.length c, .slice B q.length d] [.slice none 0 0, .slice none 0 0]
     go_enter Tryz.func79, Tryz.ntmps79
     go_wp2_with fail
     generalize ((w.alloc (.cells #[.slice A p.length c, .slice B q.length d] 84)).alloc (.cells #[.slice none 0 0, .slice none 0 0] 84)) = W at *
     obtain ⟨b0_0, b0_1⟩ := b0.c2
     obtain ⟨r0_0, r0_1⟩ := r0.c2
     have r0_f0 := r0.free
     go_wp2_with fail
     ((with_reducible refine (ratf_one _).mono ?_))
     rintro e W1 ⟨V1, rfl, o, u1⟩
     obtain ⟨Ao, co, rfl⟩ := o.form
     revert UP b0 r0 b0_0 b0_1 r0_0 r0_1; refine lg7 u1 ?_; intro UP b0 r0 b0_0 b0_1 r0_0 r0_1
     replace r0_f0 := r0.free
     clear u1
     simp only [List.length_cons, List.length_nil, Nat.zero_add] at o
     have b0_0a := cA b0_0
     have b0_1a := cA b0_1
     have r0_0a := cA r0_0
     have r0_f0a := r0.fa
     have r0_1a := cA r0_1
     go_wp2_with fail
     clear b0_0a b0_1a r0_0a r0_f0a r0_1a
     have x6 := Bx.new 84 W1 [.slice none 0 0, .slice Ao 1 co]
     have b0_lt_x6 := b0.lt
     have r0_lt_x6 := r0.lt
     have nu := ((Up.refl W1).alloc (.cells #[.slice none 0 0, .slice Ao 1 co] 84))
     revert UP b0 r0 o; revert nu; refine lh4 ?_; intro UP b0 r0 o
     generalize (W1.alloc (.cells #[.slice none 0 0, .slice Ao 1 co] 84)) = W2 at *
     clear b0_0 b0_1 r0_0 r0_1
     obtain ⟨b0_0, b0_1⟩ := b0.c2
     obtain ⟨r0_0, r0_1⟩ := r0.c2
     replace r0_f0 := r0.free
     obtain ⟨x6_0, x6_1⟩ := x6.c2
     go_wp2_with fail
     have KW : Kw (W2) ((W2).setCell ⟨w.heap.size + 1, 0, none⟩ (.slice none 0 0)) := Kw.store (c := (.slice none 0 0)) r0 rfl trivial _
     replace o := o.stored r0 (by decide) KW
     replace b0 := b0.fr (w.heap.size + 1) 0 (.slice none 0 0)
     replace x6 := x6.fr (w.heap.size + 1) 0 (.slice none 0 0)
     replace r0 : Bx 84 ((W2).setCell ⟨w.heap.size + 1, 0, none⟩ (.slice none 0 0)) (w.heap.size + 1) [.slice none 0 0, .slice none 0 0] := r0.set 0 (.slice none 0 0)
     replace UP := UP.setCell (p := ⟨w.heap.size + 1, 0, none⟩) (by dsimp only; omega) (.slice none 0 0)
     have KW : Kw (((W2).setCell ⟨w.heap.size + 1, 0, none⟩ (.slice none 0 0))) ((((W2).setCell ⟨w.heap.size + 1, 0, none⟩ (.slice none 0 0))).setCell ⟨w.heap.size + 1, 1, none⟩ (.slice Ao 1 co)) := Kw.store (c := (.slice none 0 0)) r0 rfl trivial _
     replace o := o.stored r0 (by decide) KW
     replace b0 := b0.fr (w.heap.size + 1) 1 (.slice Ao 1 co)
     replace x6 := x6.fr (w.heap.size + 1) 1 (.slice Ao 1 co)
     replace r0 : Bx 84 ((((W2).setCell ⟨w.heap.size + 1, 0, none⟩ (.slice none 0 0))).setCell ⟨w.heap.size + 1, 1, none⟩ (.slice Ao 1 co)) (w.heap.size + 1) [.slice none 0 0, .slice Ao 1 co] := r0.set 1 (.slice Ao 1 co)
     replace UP := UP.setCell (p := ⟨w.heap.size + 1, 1, none⟩) (by dsimp only; omega) (.slice Ao 1 co)
     clear KW
     generalize ((((W2).setCell ⟨w.heap.size + 1, 0, none⟩ (.slice none 0 0))).setCell ⟨w.heap.size + 1, 1, none⟩ (.slice Ao 1 co)) = W3 at *
     clear b0_0 b0_1 r0_0 r0_1 x6_0 x6_1
     obtain ⟨b0_0, b0_1⟩ := b0.c2
     obtain ⟨r0_0, r0_1⟩ := r0.c2
     obtain ⟨x6_0, x6_1⟩ := x6.c2
     exact bodyPost_ret (run_res_cell_tmp rfl rfl agg_fun size_fun r0 rfl) rfl ⟨_, _, by rw [HR.out.2.2]; rfl, by rw [HR.out.1]; exact OwnQ.nil _ _ _ _, by rw [HR.out.2.1]; exact o.mono (by omega), UP⟩
   · by_cases c2 : 8 < e
     · clear hno
       have UP : Up w ((w.alloc (.cells #[.slice A p.length c, .slice B q.length d] 84)).alloc (.cells #[.slice none 0 0, .slice none 0 0] 84)) := ((Up.refl w).alloc _).alloc _
       obtain ⟨b0, r0⟩ := bx_two 84 84 w [.slice A p.length c, .slice B q.length d] [.slice none 0 0, .slice none 0 0]
       go_enter Tryz.func79, Tryz.ntmps79
       go_wp2_with fail
       generalize ((w.alloc (.cells #[.slice A p.length c, .slice B q.length d] 84)).alloc (.cells #[.slice none 0 0, .slice none 0 0] 84)) = W at *
       obtain ⟨b0_0, b0_1⟩ := b0.c2
       obtain ⟨r0_0, r0_1⟩ := r0.c2
       have r0_f0 := r0.free
       go_wp2_with fail
       ((with_reducible refine (ratf_one _).mono ?_))
       rintro e W1 ⟨V1, rfl, o, u1⟩
       obtain ⟨Ao, co, rfl⟩ := o.form
       revert UP b0 r0 b0_0 b0_1 r0_0 r0_1; refine lg7 u1 ?_; intro UP b0 r0 b0_0 b0_1 r0_0 r0_1
       replace r0_f0 := r0.free
       clear u1
       simp only [List.length_cons, List.length_nil, Nat.zero_add] at o
       have b0_0a := cA b0_0
       have b0_1a := cA b0_1
       have r0_0a := cA r0_0
       have r0_f0a := r0.fa
       have r0_1a := cA r0_1
       go_wp2_with fail
       clear b0_0a b0_1a r0_0a r0_f0a r0_1a
       have x6 := Bx.new 84 W1 [.slice none 0 0, .slice Ao 1 co]
       have b0_lt_x6 := b0.lt
       have r0_lt_x6 := r0.lt
       have nu := ((Up.refl W1).alloc (.cells #[.slice none 0 0, .slice Ao 1 co] 84))
       revert UP b0 r0 o; revert nu; refine lh4 ?_; intro UP b0 r0 o
       generalize (W1.alloc (.cells #[.slice none 0 0, .slice Ao 1 co] 84)) = W2 at *
       clear b0_0 b0_1 r0_0 r0_1
       obtain ⟨b0_0, b0_1⟩ := b0.c2
       obtain ⟨r0_0, r0_1⟩ := r0.c2
       replace r0_f0 := r0.free
       obtain ⟨x6_0, x6_1⟩ := x6.c2
       go_wp2_with fail
       have KW : Kw (W2) ((W2).setCell ⟨w.heap.size + 1, 0, none⟩ (.slice none 0 0)) := Kw.store (c := (.slice none 0 0)) r0 rfl trivial _
       replace o := o.stored r0 (by decide) KW
       replace b0 := b0.fr (w.heap.size + 1) 0 (.slice none 0 0)
       replace x6 := x6.fr (w.heap.size + 1) 0 (.slice none 0 0)
       replace r0 : Bx 84 ((W2).setCell ⟨w.heap.size + 1, 0, none⟩ (.slice none 0 0)) (w.heap.size + 1) [.slice none 0 0, .slice none 0 0] := r0.set 0 (.slice none 0 0)
       replace UP := UP.setCell (p := ⟨w.heap.size + 1, 0, none⟩) (by dsimp only; omega) (.slice none 0 0)
       have KW : Kw (((W2).setCell ⟨w.heap.size + 1, 0, none⟩ (.slice none 0 0))) ((((W2).setCell ⟨w.heap.size + 1, 0, none⟩ (.slice none 0 0))).setCell ⟨w.heap.size + 1, 1, none⟩ (.slice Ao 1 co)) := Kw.store (c := (.slice none 0 0)) r0 rfl trivial _
       replace o := o.stored r0 (by decide) KW
       replace b0 := b0.fr (w.heap.size + 1) 1 (.slice Ao 1 co)
       replace x6 := x6.fr (w.heap.size + 1) 1 (.slice Ao 1 co)
       replace r0 : Bx 84 ((((W2).setCell ⟨w.heap.size + 1, 0, none⟩ (.slice none 0 0))).setCell ⟨w.heap.size + 1, 1, none⟩ (.slice Ao 1 co)) (w.heap.size + 1) [.slice none 0 0, .slice Ao 1 co] := r0.set 1 (.slice Ao 1 co)
       replace UP := UP.setCell (p := ⟨w.heap.size + 1, 1, none⟩) (by dsimp only; omega) (.slice Ao 1 co)
       clear KW
       generalize ((((W2).setCell ⟨w.heap.size + 1, 0, none⟩ (.slice none 0 0))).setCell ⟨w.heap.size + 1, 1, none⟩ (.slice Ao 1 co)) = W3 at *
       clear b0_0 b0_1 r0_0 r0_1 x6_0 x6_1
       obtain ⟨b0_0, b0_1⟩ := b0.c2
       obtain ⟨r0_0, r0_1⟩ := r0.c2
       obtain ⟨x6_0, x6_1⟩ := x6.c2
       exact bodyPost_ret (run_res_cell_tmp rfl rfl agg_fun size_fun r0 rfl) rfl ⟨_, _, by rw [HR.out.2.2]; rfl, by rw [HR.out.1]; exact OwnQ.nil _ _ _ _, by rw [HR.out.2.1]; exact o.mono (by omega), UP⟩
     · have c3 : e < 0 := by
        rcases Int.lt_or_le e 0 with h | h
        · exact h
        · exact absurd ⟨by omega, by omega, fun hh => by omega⟩ hno
       have HS : Hid (decide (Pq.nm P = []) = true) := Lib.hid (by
        rcases Classical.em (U = []) with h | h
        · exact decide_eq_true (HZ0.out.1 h)
        · exact absurd ⟨by omega, by omega, fun hh => h hh.2⟩ hno)
       clear hno
       have UP : Up w ((w.alloc (.cells #[.slice A p.length c, .slice B q.length d] 84)).alloc (.cells #[.slice none 0 0, .slice none 0 0] 84)) := ((Up.refl w).alloc _).alloc _
       obtain ⟨b0, r0⟩ := bx_two 84 84 w [.slice A p.length c, .slice B q.length d] [.slice none 0 0, .slice none 0 0]
       go_enter Tryz.func79, Tryz.ntmps79
       go_wp2_with fail
       generalize ((w.alloc (.cells #[.slice A p.length c, .slice B q.length d] 84)).alloc (.cells #[.slice none 0 0, .slice none 0 0] 84)) = W at *
       obtain ⟨b0_0, b0_1⟩ := b0.c2
       obtain ⟨r0_0, r0_1⟩ := r0.c2
       have r0_f0 := r0.free
       go_wp2_with fail
       ((with_reducible refine (ratf_one _).mono ?_))
       rintro e W1 ⟨V1, rfl, o, u1⟩
       obtain ⟨Ao, co, rfl⟩ := o.form
       revert UP b0 r0 b0_0 b0_1 r0_0 r0_1; refine lg7 u1 ?_; intro UP b0 r0 b0_0 b0_1 r0_0 r0_1
       replace r0_f0 := r0.free
       clear u1
       simp only [List.length_cons, List.length_nil, Nat.zero_add] at o
       have b0_0a := cA b0_0
       have b0_1a := cA b0_1
       have r0_0a := cA r0_0
       have r0_f0a := r0.fa
       have r0_1a := cA r0_1
       go_wp2_with fail
       clear b0_0a b0_1a r0_0a r0_f0a r0_1a
       have x6 := Bx.new 84 W1 [.slice none 0 0, .slice Ao 1 co]
       have b0_lt_x6 := b0.lt
       have r0_lt_x6 := r0.lt
       have nu := ((Up.refl W1).alloc (.cells #[.slice none 0 0, .slice Ao 1 co] 84))
       revert UP b0 r0 o; revert nu; refine lh4 ?_; intro UP b0 r0 o
       generalize (W1.alloc (.cells #[.slice none 0 0, .slice Ao 1 co] 84)) = W2 at *
       clear b0_0 b0_1 r0_0 r0_1
       obtain ⟨b0_0, b0_1⟩ := b0.c2
       obtain ⟨r0_0, r0_1⟩ := r0.c2
       replace r0_f0 := r0.free
       obtain ⟨x6_0, x6_1⟩ := x6.c2
       ((with_reducible refine (ratf_zero (HH.out.up UP) (HH2.out.up UP) (by omega) (by omega) (by omega) (by omega) HP HD).mono ?_))
       rintro e W3 ⟨rfl, u3⟩
       clear x6_0 x6_1; revert x6 UP b0 r0 o b0_0 b0_1 r0_0 r0_1; refine lg9 u3 ?_; intro x6 UP b0 r0 o b0_0 b0_1 r0_0 r0_1
       replace r0_f0 := r0.free
       obtain ⟨x6_0, x6_1⟩ := x6.c2
       clear u3
       rw [HS.out]
       go_wp2_with fail
       have KW : Kw (W3) ((W3).setCell ⟨w.heap.size + 1, 0, none⟩ (.slice none 0 0)) := Kw.store (c := (.slice none 0 0)) r0 rfl trivial _
       replace o := o.stored r0 (by decide) KW
       replace b0 := b0.fr (w.heap.size + 1) 0 (.slice none 0 0)
       replace x6 := x6.fr (w.heap.size + 1) 0 (.slice none 0 0)
       replace r0 : Bx 84 ((W3).setCell ⟨w.heap.size + 1, 0, none⟩ (.slice none 0 0)) (w.heap.size + 1) [.slice none 0 0, .slice none 0 0] := r0.set 0 (.slice none 0 0)
       replace UP := UP.setCell (p := ⟨w.heap.size + 1, 0, none⟩) (by dsimp only; omega) (.slice none 0 0)
       have KW : Kw (((W3).setCell ⟨w.heap.size + 1, 0, none⟩ (.slice none 0 0))) ((((W3).setCell ⟨w.heap.size + 1, 0, none⟩ (.slice none 0 0))).setCell ⟨w.heap.size + 1, 1, none⟩ (.slice Ao 1 co)) := Kw.store (c := (.slice none 0 0)) r0 rfl trivial _
       replace o := o.stored r0 (by decide) KW
       replace b0 := b0.fr (w.heap.size + 1) 1 (.slice Ao 1 co)
       replace x6 := x6.fr (w.heap.size + 1) 1 (.slice Ao 1 co)
       replace r0 : Bx 84 ((((W3).setCell ⟨w.heap.size + 1, 0, none⟩ (.slice none 0 0))).setCell ⟨w.heap.size + 1, 1, none⟩ (.slice Ao 1 co)) (w.heap.size + 1) [.slice none 0 0, .slice Ao 1 co] := r0.set 1 (.slice Ao 1 co)
       replace UP := UP.setCell (p := ⟨w.heap.size + 1, 1, none⟩) (by dsimp only; omega) (.slice Ao 1 co)
       clear KW
       generalize ((((W3).setCell ⟨w.heap.size + 1, 0, none⟩ (.slice none 0 0))).setCell ⟨w.heap.size + 1, 1, none⟩ (.slice Ao 1 co)) = W4 at *
       clear b0_0 b0_1 r0_0 r0_1 x6_0 x6_1
       obtain ⟨b0_0, b0_1⟩ := b0.c2
       obtain ⟨r0_0, r0_1⟩ := r0.c2
       obtain ⟨x6_0, x6_1⟩ := x6.c2
       exact bodyPost_ret (run_res_cell_tmp rfl rfl agg_fun size_fun r0 rfl) rfl ⟨_, _, by rw [HR.out.2.2]; rfl, by rw [HR.out.1]; exact OwnQ.nil _ _ _ _, by rw [HR.out.2.1]; exact o.mono (by omega), UP⟩
 have hok' := hok
 unfold Pq.pwB at hok
 have hok := of_decide_eq_true hok
 obtain ⟨o1, o2, o3⟩ := hok
 have HCS := Lib.hid HC.out.self
 obtain ⟨P0, HP0⟩ : ∃ P, Hid (((1 : Int) : Rat) = P) := ⟨_, Lib.hid rfl⟩
 have LO : Wd.Lq P0 2 := by rw [← HP0.out]; exact lq_int (by omega)
 obtain ⟨R1, HR1⟩ : ∃ R, Hid (Pq.nm [P0] = R) := ⟨_, Lib.hid rfl⟩
 have HRN : Hid (R1 = [1]) := Lib.hid (by rw [← HR1.out, ← HP0.out]; exact Pq.nm_one)
 have HLP : Hid (∀ n, n ≤ 50 → Pq.Lp (Pq.pwl U n ++ Pq.pwl E0 n) (n * (48 + 1) + 3)) := Lib.hid (Pq.pwl_lp LU.out (by omega) (by omega))
 have HLU : Hid (∀ n, (Pq.pwl U n).length ≤ n * 2 + 1) := Lib.hid (Pq.pwl_len (by omega))
 have HLD : Hid (∀ n, (Pq.pwl E0 n).length ≤ n * 2 + 1) := Lib.hid (Pq.pwl_len (by omega))
 have HNP : Hid (∀ n, Pq.nm (Pq.pwl E0 n) ≠ []) := Lib.hid (fun n => (Pq.can_pow HCS.out n).nd)
 have HSTEP : Hid (∀ n us ds, Pq.Can (Pq.nm (Pq.mul (Pq.pwl U n) P)) (Pq.nm (Pq.mul (Pq.pwl E0 n) D)) us ds → us = Pq.pwl U (n + 1) ∧ ds = Pq.pwl E0 (n + 1)) := Lib.hid (fun n us ds hc => Pq.pow_up DN.out HC.out hc)
 rcases Int.lt_or_le e 0 with hlt | hge
 · obtain ⟨N, hN⟩ := Int.eq_ofNat_of_zero_le (a := -e) (by omega)
   obtain rfl : e = -(N : Int) := by omega
   have hn8 : N ≤ 3 := by omega
   have hU0 : U ≠ [] := fun hh => o3 ⟨hlt, hh⟩
   have hUN : Hid (Pq.nm U ≠ []) := Lib.hid (by rw [Pq.nm_of_tr HC.out.tr]; exact hU0)
   have HV := Lib.hid (Pq.can_inv HCS.out hU0)
   have HR : Hid (RU = Pq.pwl (Pq.sc (Pq.ivc U E0) E0) N ∧ RD = Pq.pwl (Pq.sc (Pq.ivc U E0) U) N ∧ t = true) := Lib.hid ⟨by rw [← HRU.out]; unfold Pq.pwU; rw [hok', if_pos rfl, if_pos hlt]; simp, by rw [← HRD.out]; unfold Pq.pwD; rw [hok', if_pos rfl, if_pos hlt]; simp, by rw [← HRT.out]; exact hok'⟩
   have HOV : Hid (∀ n us ds, Pq.Can (Pq.nm (Pq.mul R1 (Pq.pwl E0 n))) (Pq.nm (Pq.mul [1] (Pq.pwl U n))) us ds → us = Pq.pwl (Pq.sc (Pq.ivc U E0) E0) n ∧ ds = Pq.pwl (Pq.sc (Pq.ivc U E0) U) n) := Lib.hid (fun n us ds hc => Pq.pow_over (fun x => by rw [HRN.out, Pq.E_one]) HCS.out hU0 HV.out hc)
   have HNU : Hid (∀ n, Pq.nm (Pq.pwl U n) ≠ []) := Lib.hid (fun n => by
    induction n with
    | zero => rw [Pq.pwl, Pq.nm_one]; simp
    | succ k ih => exact Pq.nmul_ne ih hUN.out)
   have HPR : Hid (Pq.pu R1 [1] = R1) := Lib.hid (Pq.pu_of (by rw [Pq.nm_one]; simp))
   have HDR : Hid (Pq.pd R1 [1] = [1]) := Lib.hid (Pq.pd_of (by rw [Pq.nm_one]; simp))
   have lR1 : R1.length ≤ 1 := by rw [HRN.out]; simp
   have LR1 : Hid (Pq.Lp (R1 ++ [1]) 5) := Lib.hid ((Pq.Lp.few (k := 2) (fun y hy => by
    rw [HRN.out] at hy
    simp only [List.cons_append, List.nil_append, List.mem_cons, List.not_mem_nil, or_false, or_self] at hy
    rw [hy]; exact lq_one)).mono (by rw [HRN.out]; simp))
   have HS : Hid (decide (Pq.nm P = []) = false) := Lib.hid (decide_eq_false (fun hh => hU0 (HZ0.out.2 hh)))
   have hN1 : 0 < N := by omega
   have HM : Hid (((N : Nat) : Int) = if ((N : Nat) : Int) > -(N : Int) then ((N : Nat) : Int) else -(N : Int)) := Lib.hid (by rw [if_pos (by omega)])
   clear hN o3 hok' hU0 hin
   have UP : Up w ((w.alloc (.cells #[.slice A p.length c, .slice B q.length d] 84)).alloc (.cells #[.slice none 0 0, .slice none 0 0] 84)) := ((Up.refl w).alloc _).alloc _
   obtain ⟨b0, r0⟩ := bx_two 84 84 w [.slice A p.length c, .slice B q.length d] [.slice none 0 0, .slice none 0 0]
   go_enter Tryz.func79, Tryz.ntmps79
   go_wp2_with fail
   generalize ((w.alloc (.cells #[.slice A p.length c, .slice B q.length d] 84)).alloc (.cells #[.slice none 0 0, .slice none 0 0] 84)) = W at *
   obtain ⟨b0_0, b0_1⟩ := b0.c2
   obtain ⟨r0_0, r0_1⟩ := r0.c2
   have r0_f0 := r0.free
   go_wp2_with fail
   ((with_reducible refine (ratf_one _).mono ?_))
   rintro e W1 ⟨V1, rfl, on, u1⟩
   obtain ⟨Aon, con, rfl⟩ := on.form
   revert UP b0 r0 b0_0 b0_1 r0_0 r0_1; refine lg7 u1 ?_; intro UP b0 r0 b0_0 b0_1 r0_0 r0_1
   replace r0_f0 := r0.free
   clear u1
   simp only [List.length_cons, List.length_nil, Nat.zero_add] at on
   have b0_0a := cA b0_0
   have b0_1a := cA b0_1
   have r0_0a := cA r0_0
   have r0_f0a := r0.fa
   have r0_1a := cA r0_1
   go_wp2_with fail
   clear b0_0a b0_1a r0_0a r0_f0a r0_1a
   have x6 := Bx.new 84 W1 [.slice none 0 0, .slice Aon 1 con]
   have b0_lt_x6 := b0.lt
   have r0_lt_x6 := r0.lt
   have nu := ((Up.refl W1).alloc (.cells #[.slice none 0 0, .slice Aon 1 con] 84))
   revert UP b0 r0 on; revert nu; refine lh4 ?_; intro UP b0 r0 on
   generalize (W1.alloc (.cells #[.slice none 0 0, .slice Aon 1 con] 84)) = W2 at *
   clear b0_0 b0_1 r0_0 r0_1
   obtain ⟨b0_0, b0_1⟩ := b0.c2
   obtain ⟨r0_0, r0_1⟩ := r0.c2
   replace r0_f0 := r0.free
   obtain ⟨x6_0, x6_1⟩ := x6.c2
   clear on
   ((with_reducible refine (ratf_zero (HH.out.up UP) (HH2.out.up UP) (by omega) (by omega) (by omega) (by omega) HP HD).mono ?_))
   rintro e W3 ⟨rfl, u3⟩
   clear x6_0 x6_1; revert x6 UP b0 r0 b0_0 b0_1 r0_0 r0_1; refine lg8 u3 ?_; intro x6 UP b0 r0 b0_0 b0_1 r0_0 r0_1
   replace r0_f0 := r0.free
   obtain ⟨x6_0, x6_1⟩ := x6.c2
   clear u3
   rw [HS.out]
   go_wp2_with fail
   ((with_reducible refine (frac_of (n := 1) (by omega) _).mono ?_))
   rintro e W4 ⟨V4, rfl, o, u4⟩
   clear x6_0 x6_1; revert x6 UP b0 r0 b0_0 b0_1 r0_0 r0_1; refine lg8 u4 ?_; intro x6 UP b0 r0 b0_0 b0_1 r0_0 r0_1
   replace r0_f0 := r0.free
   obtain ⟨x6_0, x6_1⟩ := x6.c2
   clear u4
   rw [HP0.out] at o
   go_wp2_with fail
   ((with_reducible refine (ratf_of (o.fr LO) (by omega) (by omega) HR1).mono ?_))
   rintro e W5 ⟨V5, U5, rfl, i, ie, u5⟩
   obtain ⟨Ai, ci, rfl⟩ := i.form
   obtain ⟨Aie, cie, rfl⟩ := ie.form
   try simp only [List.length_cons, List.length_nil, Nat.zero_add] at ie
   clear x6_0 x6_1; revert o x6 UP b0 r0 b0_0 b0_1 r0_0 r0_1; refine lg9 u5 ?_; intro o x6 UP b0 r0 b0_0 b0_1 r0_0 r0_1
   replace r0_f0 := r0.free
   obtain ⟨x6_0, x6_1⟩ := x6.c2
   clear u5
   clear o
   have b0_0a := cA b0_0
   have b0_1a := cA b0_1
   have r0_0a := cA r0_0
   have r0_f0a := r0.fa
   have r0_1a := cA r0_1
   have x6_0a := cA x6_0
   have x6_1a := cA x6_1
   go_wp2_with (with_reducible show wpList _ _ _ _ _ _; refine wl_max (o := ⟨some 30, _, _, _, _, _⟩) rfl _ _ _ _ rfl rfl rfl HM.out ?_)
   clear b0_0a b0_1a r0_0a r0_f0a r0_1a x6_0a x6_1a
   have x1 := Bx.new 84 W5 [.slice Ai R1.length ci, .slice Aie 1 cie]
   have b0_lt_x1 := b0.lt
   have b0_ne_x1 : ¬ (w.heap.size = W5.heap.size) := by omega
   have b0_en_x1 : ¬ (W5.heap.size = w.heap.size) := by omega
   have r0_lt_x1 := r0.lt
   have r0_ne_x1 : ¬ (w.heap.size + 1 = W5.heap.size) := by omega
   have r0_en_x1 : ¬ (W5.heap.size = w.heap.size + 1) := by omega
   have x6_lt_x1 := x6.lt
   have x6_ne_x1 : ¬ (W1.heap.size = W5.heap.size) := by omega
   have x6_en_x1 : ¬ (W5.heap.size = W1.heap.size) := by omega
   have nu := ((Up.refl W5).alloc (.cells #[.slice Ai R1.length ci, .slice Aie 1 cie] 84))
   revert i ie x6 UP b0 r0; revert nu; refine lh6 ?_; intro i ie x6 UP b0 r0
   generalize (W5.alloc (.cells #[.slice Ai R1.length ci, .slice Aie 1 cie] 84)) = W6 at *
   clear b0_0 b0_1 r0_0 r0_1 x6_0 x6_1
   obtain ⟨b0_0, b0_1⟩ := b0.c2
   obtain ⟨r0_0, r0_1⟩ := r0.c2
   replace r0_f0 := r0.free
   obtain ⟨x6_0, x6_1⟩ := x6.c2
   obtain ⟨x1_0, x1_1⟩ := x1.c2
   have x1_f0 := x1.free
   go_loopw [31] (fun s7 wr => ∃ (n : Nat) (A' D' : Option Addr) (n1 c1 n2 c2 : Nat), s7 = .int .i64 n ∧ n ≤ N ∧ Bx 84 wr W5.heap.size [.slice A' n1 c1, .slice D' n2 c2] ∧ ARow 3000 wr (.slice A' n1 c1) (Pq.pwl U n) ∧ ARow 3000 wr (.slice D' n2 c2) (Pq.pwl E0 n) ∧ Bx 84 wr w.heap.size [.slice A p.length c, .slice B q.length d] ∧ Bx 84 wr (w.heap.size + 1) [.slice none 0 0, .slice none 0 0] ∧ Up w wr) (fun s7 _ => N - (intOf s7).toNat)
   case atStart => exact ⟨0, _, _, _, _, _, _, rfl, Nat.zero_le _, x1, by rw [show Pq.pwl U 0 = R1 from HRN.out.symm]; exact i.mono (by omega), ie.mono (by omega), b0, r0, UP⟩
   case round =>
    obtain ⟨n, A', D', n1, c1, n2, c2, rfl, hn, x1, X, XE, b0, r0, UP⟩ := hrel
    obtain ⟨b0_0, b0_1⟩ := b0.c2
    obtain ⟨r0_0, r0_1⟩ := r0.c2
    have r0_f0 := r0.free
    obtain ⟨x1_0, x1_1⟩ := x1.c2
    have x1_f0 := x1.free
    by_cases hlt : n < N
    · skip
      have L1 := HLP.out n (by omega)
      have l1 := HLU.out n
      have l2 := HLD.out n
      go_wp2_with fail
      ((with_reducible refine (ratf_mul (k := 3000) X.fs XE.fs (m := 5) (by omega) (by omega) (by omega) (L1.mono (show n * (48 + 1) + 3 ≤ 101 by omega)) ((HH.out.up UP).mono (by omega)) ((HH2.out.up UP).mono (by omega)) lp lq (by omega) LJ.out 7 (by omega) (by omega) (K := 1540) (by omega) (by omega) (by omega) (by omega) (Lib.hid (Pq.pu_of (HNP.out n))) (Lib.hid (Pq.pd_of (HNP.out n))) HP HD).mono ?_))
      rintro e W51 ⟨V51, U51, psy, qsy, rfl, y, ye, cay, lpy, ley, u51⟩
      obtain ⟨Ay, cy, rfl⟩ := y.form
      obtain ⟨Aye, cye, rfl⟩ := ye.form
      clear x1_0 x1_1; revert x1 X XE b0 r0 UP b0_0 b0_1 r0_0 r0_1; refine lg10 u51 ?_; intro x1 X XE b0 r0 UP b0_0 b0_1 r0_0 r0_1
      replace r0_f0 := r0.free
      obtain ⟨x1_0, x1_1⟩ := x1.c2
      replace x1_f0 := x1.free
      clear u51
      have HE := Lib.hid (HSTEP.out n _ _ cay.out)
      clear L1 l1 l2
      clear X XE
      go_wp2_with fail
      have KW : Kw (W51) ((W51).setCell ⟨W5.heap.size, 0, none⟩ (.slice Ay psy.length cy)) := Kw.store (c := (.slice A' n1 c1)) x1 rfl trivial _
      replace y := y.stored x1 (by decide) KW
      replace ye := ye.stored x1 (by decide) KW
      replace b0 := b0.fr (W5.heap.size) 0 (.slice Ay psy.length cy)
      replace r0 := r0.fr (W5.heap.size) 0 (.slice Ay psy.length cy)
      replace x1 : Bx 84 ((W51).setCell ⟨W5.heap.size, 0, none⟩ (.slice Ay psy.length cy)) (W5.heap.size) [.slice Ay psy.length cy, .slice D' n2 c2] := x1.set 0 (.slice Ay psy.length cy)
      replace UP := UP.setCell (p := ⟨W5.heap.size, 0, none⟩) (by dsimp only; omega) (.slice Ay psy.length cy)
      have KW : Kw (((W51).setCell ⟨W5.heap.size, 0, none⟩ (.slice Ay psy.length cy))) ((((W51).setCell ⟨W5.heap.size, 0, none⟩ (.slice Ay psy.length cy))).setCell ⟨W5.heap.size, 1, none⟩ (.slice Aye qsy.length cye)) := Kw.store (c := (.slice D' n2 c2)) x1 rfl trivial _
      replace y := y.stored x1 (by decide) KW
      replace ye := ye.stored x1 (by decide) KW
      replace b0 := b0.fr (W5.heap.size) 1 (.slice Aye qsy.length cye)
      replace r0 := r0.fr (W5.heap.size) 1 (.slice Aye qsy.length cye)
      replace x1 : Bx 84 ((((W51).setCell ⟨W5.heap.size, 0, none⟩ (.slice Ay psy.length cy))).setCell ⟨W5.heap.size, 1, none⟩ (.slice Aye qsy.length cye)) (W5.heap.size) [.slice Ay psy.length cy, .slice Aye qsy.length cye] := x1.set 1 (.slice Aye qsy.length cye)
      replace UP := UP.setCell (p := ⟨W5.heap.size, 1, none⟩) (by dsimp only; omega) (.slice Aye qsy.length cye)
      clear KW
      generalize ((((W51).setCell ⟨W5.heap.size, 0, none⟩ (.slice Ay psy.length cy))).setCell ⟨W5.heap.size, 1, none⟩ (.slice Aye qsy.length cye)) = W52 at *
      clear b0_0 b0_1 r0_0 r0_1 x1_0 x1_1
      obtain ⟨b0_0, b0_1⟩ := b0.c2
      obtain ⟨r0_0, r0_1⟩ := r0.c2
      replace r0_f0 := r0.free
      obtain ⟨x1_0, x1_1⟩ := x1.c2
      go_roundw
      case rel => exact ⟨n + 1, _, _, _, _, _, _, by go_num, by omega, x1, by rw [← HE.out.1]; exact y.mono (by omega), by rw [← HE.out.2]; exact ye.mono (by omega), b0, r0, UP⟩
      case measure => simp [intOf]; omega
    · obtain rfl : n = N := by omega
      have L1 := HLP.out n (by omega)
      have l1 := HLU.out n
      have l2 := HLD.out n
      go_wp2_with fail
      clear x1_0 x1_1; refine li8 (Up.refl wr).drew X XE b0 r0 x1 UP b0_0 b0_1 ?_; clear X XE b0 r0 x1 UP b0_0 b0_1; intro X XE b0 r0 x1 UP b0_0 b0_1
      obtain ⟨r0_0, r0_1⟩ := r0.c2
      have r0_f0 := r0.free
      obtain ⟨x1_0, x1_1⟩ := x1.c2
      replace x1_f0 := x1.free
      refine wp_region_noPanic ?_
      refine wp_region_held_drew (S := fun w' => Up w w' ∧ w'.cell? ⟨W5.heap.size, 0, none⟩ = some (.slice A' n1 c1) ∧ w'.cell? ⟨W5.heap.size, 1, none⟩ = some (.slice D' n2 c2)) (by kernel_rfl) ?_ (fun hHeld => ?_)
      · with_reducible exact ⟨UP, x1_0, x1_1⟩
      refine tk 2 ?_
      try simp only [gs, Act.put]
      refine rd 0 (fun K hK => ?_)
      go_simp
      (first
        | (go_at_call 90
           ((with_reducible refine (frac_of (n := 1) (by omega) _).mono ?_))
           rintro e W51 ⟨V51, rfl, o, u51⟩
           clear x1_0 x1_1; revert X XE b0 r0 x1 UP b0_0 b0_1 r0_0 r0_1; refine lg10 u51 ?_; intro X XE b0 r0 x1 UP b0_0 b0_1 r0_0 r0_1
           try (replace o := o.up u51)
           try (replace i := i.up u51)
           try (replace ie := ie.up u51)
           try (replace y := y.up u51)
           try (replace ye := ye.up u51)
           replace r0_f0 := r0.free
           obtain ⟨x1_0, x1_1⟩ := x1.c2
           replace x1_f0 := x1.free
           clear u51
           rw [HP0.out] at o))
      try go_wp2_with fail
      try clear hHeld
      refine hK.out _ _ ?_ (fun hHeld => ?_)
      · with_reducible exact ⟨UP, x1_0, x1_1⟩
      clear hK K
      try simp only [gs, Act.put]
      refine rd 1 (fun K hK => ?_)
      go_simp
      (first
        | (go_at_call 76
           ((with_reducible refine (ratf_of (o.fr LO) (by omega) (by omega) HR1).mono ?_))
           rintro e W52 ⟨V52, U52, rfl, i, ie, u52⟩
           obtain ⟨Ai, ci, rfl⟩ := i.form
           obtain ⟨Aie, cie, rfl⟩ := ie.form
           try simp only [List.length_cons, List.length_nil, Nat.zero_add] at ie
           clear x1_0 x1_1; revert X XE b0 r0 x1 UP b0_0 b0_1 r0_0 r0_1; refine lg10 u52 ?_; intro X XE b0 r0 x1 UP b0_0 b0_1 r0_0 r0_1
           try (replace o := o.up u52)
           try (replace i := i.up u52)
           try (replace ie := ie.up u52)
           try (replace y := y.up u52)
           try (replace ye := ye.up u52)
           replace r0_f0 := r0.free
           obtain ⟨x1_0, x1_1⟩ := x1.c2
           replace x1_f0 := x1.free
           clear u52))
      try go_wp2_with fail
      try clear hHeld
      refine hK.out _ _ ?_ (fun hHeld => ?_)
      · with_reducible exact ⟨UP, x1_0, x1_1⟩
      clear hK K
      try simp only [gs, Act.put]
      refine rd 3 (fun K hK => ?_)
      go_simp
      (first
        | (go_at_call 77
           ((with_reducible refine (ratf_quo (k := 3000) (i.fs.mono (by omega)) (ie.fs.mono (by omega)) (m := 1) lR1 (by simp) (by omega) LR1.out X.fs XE.fs (m' := 7) (by omega) (by omega) (by omega) (L1.mono (show n * (48 + 1) + 3 ≤ 150 by omega)) 7 (by omega) (by omega) (K := 2198) (by omega) (by omega) (by omega) (by omega) HPR HDR (Lib.hid (Pq.pu_of (HNP.out n))) (Lib.hid (Pq.pd_of (HNP.out n))) (Lib.hid (HNU.out n))).mono ?_))
           rintro e W53 ⟨V53, U53, psy, qsy, rfl, y, ye, cay, lpy, ley, u53⟩
           obtain ⟨Ay, cy, rfl⟩ := y.form
           obtain ⟨Aye, cye, rfl⟩ := ye.form
           clear x1_0 x1_1; revert X XE b0 r0 x1 UP b0_0 b0_1 r0_0 r0_1; refine lg10 u53 ?_; intro X XE b0 r0 x1 UP b0_0 b0_1 r0_0 r0_1
           try (replace o := o.up u53)
           try (replace i := i.up u53)
           try (replace ie := ie.up u53)
           try (replace y := y.up u53)
           try (replace ye := ye.up u53)
           replace r0_f0 := r0.free
           obtain ⟨x1_0, x1_1⟩ := x1.c2
           replace x1_f0 := x1.free
           clear u53))
      try go_wp2_with fail
      try clear hHeld
      refine hK.out _ _ ?_ (fun hHeld => ?_)
      · with_reducible exact ⟨UP, x1_0, x1_1⟩
      clear hK K
      try simp only [gs, Act.put]
      refine tk 4 ?_
      try simp only [gs, Act.put]
      refine tk 5 ?_
      try simp only [gs, Act.put]
      refine rd 6 (fun K hK => ?_)
      go_simp
      skip
      try go_wp2_with fail
      try clear hHeld
      refine hK.out _ _ ?_ (fun hHeld => ?_)
      · (first | with_reducible exact ⟨UP, x1_0, x1_1⟩ | with_reducible exact ⟨(us (us UP)), (cf (cf x1_0)), (cf (cf x1_1))⟩)
      clear hK K
      try simp only [gs, Act.put]
      refine rd 7 (fun K hK => ?_)
      go_simp
      skip
      try go_wp2_with fail
      try clear hHeld
      refine hK.out _ _ ?_ (fun hHeld => ?_)
      · (first | with_reducible exact ⟨UP, x1_0, x1_1⟩ | with_reducible exact ⟨(us (us UP)), (cf (cf x1_0)), (cf (cf x1_1))⟩)
      clear hK K
      try simp only [gs, Act.put]
      refine wpAnyH_done (by kernel_rfl) ?_ _
      refine NoPanic.normal ?_
      clear hHeld
      have HE := Lib.hid (HOV.out n _ _ cay.out)
      clear o i ie X XE
      have KW : Kw (W53) ((W53).setCell ⟨w.heap.size + 1, 0, none⟩ (.slice Ay psy.length cy)) := Kw.store (c := (.slice none 0 0)) r0 rfl trivial _
      replace y := y.stored r0 (by decide) KW
      replace ye := ye.stored r0 (by decide) KW
      replace b0 := b0.fr (w.heap.size + 1) 0 (.slice Ay psy.length cy)
      replace x1 := x1.fr (w.heap.size + 1) 0 (.slice Ay psy.length cy)
      replace r0 : Bx 84 ((W53).setCell ⟨w.heap.size + 1, 0, none⟩ (.slice Ay psy.length cy)) (w.heap.size + 1) [.slice Ay psy.length cy, .slice none 0 0] := r0.set 0 (.slice Ay psy.length cy)
      replace UP := UP.setCell (p := ⟨w.heap.size + 1, 0, none⟩) (by dsimp only; omega) (.slice Ay psy.length cy)
      have KW : Kw (((W53).setCell ⟨w.heap.size + 1, 0, none⟩ (.slice Ay psy.length cy))) ((((W53).setCell ⟨w.heap.size + 1, 0, none⟩ (.slice Ay psy.length cy))).setCell ⟨w.heap.size + 1, 1, none⟩ (.slice Aye qsy.length cye)) := Kw.store (c := (.slice none 0 0)) r0 rfl trivial _
      replace y := y.stored r0 (by decide) KW
      replace ye := ye.stored r0 (by decide) KW
      replace b0 := b0.fr (w.heap.size + 1) 1 (.slice Aye qsy.length cye)
      replace x1 := x1.fr (w.heap.size + 1) 1 (.slice Aye qsy.length cye)
      replace r0 : Bx 84 ((((W53).setCell ⟨w.heap.size + 1, 0, none⟩ (.slice Ay psy.length cy))).setCell ⟨w.heap.size + 1, 1, none⟩ (.slice Aye qsy.length cye)) (w.heap.size + 1) [.slice Ay psy.length cy, .slice Aye qsy.length cye] := r0.set 1 (.slice Aye qsy.length cye)
      replace UP := UP.setCell (p := ⟨w.heap.size + 1, 1, none⟩) (by dsimp only; omega) (.slice Aye qsy.length cye)
      clear KW
      generalize ((((W53).setCell ⟨w.heap.size + 1, 0, none⟩ (.slice Ay psy.length cy))).setCell ⟨w.heap.size + 1, 1, none⟩ (.slice Aye qsy.length cye)) = W54 at *
      clear b0_0 b0_1 r0_0 r0_1 x1_0 x1_1
      obtain ⟨b0_0, b0_1⟩ := b0.c2
      obtain ⟨r0_0, r0_1⟩ := r0.c2
      obtain ⟨x1_0, x1_1⟩ := x1.c2
      replace x1_f0 := x1.free
      go_wp2_with fail
      exact bodyPost_ret (run_res_cell_tmp rfl rfl agg_fun size_fun r0 rfl) rfl ⟨_, _, by rw [HR.out.2.2]; rfl, by rw [HR.out.1, ← HE.out.1]; exact y.mono (by omega), by rw [HR.out.2.1, ← HE.out.2]; exact ye.mono (by omega), UP⟩
 · obtain ⟨N, rfl⟩ := Int.eq_ofNat_of_zero_le hge
   have hn8 : N ≤ 3 := by omega
   have HR : Hid (RU = Pq.pwl U N ∧ RD = Pq.pwl E0 N ∧ t = true) := Lib.hid ⟨by rw [← HRU.out]; unfold Pq.pwU; rw [hok', if_pos rfl, if_neg (by omega)]; simp, by rw [← HRD.out]; unfold Pq.pwD; rw [hok', if_pos rfl, if_neg (by omega)]; simp, by rw [← HRT.out]; exact hok'⟩
   have HM : Hid (((N : Nat) : Int) = if -((N : Nat) : Int) > (N : Int) then -((N : Nat) : Int) else (N : Int)) := Lib.hid (by rw [if_neg (by omega)])
   clear hge o3 hok' hin
   have UP : Up w ((w.alloc (.cells #[.slice A p.length c, .slice B q.length d] 84)).alloc (.cells #[.slice none 0 0, .slice none 0 0] 84)) := ((Up.refl w).alloc _).alloc _
   obtain ⟨b0, r0⟩ := bx_two 84 84 w [.slice A p.length c, .slice B q.length d] [.slice none 0 0, .slice none 0 0]
   go_enter Tryz.func79, Tryz.ntmps79
   go_wp2_with fail
   generalize ((w.alloc (.cells #[.slice A p.length c, .slice B q.length d] 84)).alloc (.cells #[.slice none 0 0, .slice none 0 0] 84)) = W at *
   obtain ⟨b0_0, b0_1⟩ := b0.c2
   obtain ⟨r0_0, r0_1⟩ := r0.c2
   have r0_f0 := r0.free
   go_wp2_with fail
   ((with_reducible refine (ratf_one _).mono ?_))
   rintro e W1 ⟨V1, rfl, on, u1⟩
   obtain ⟨Aon, con, rfl⟩ := on.form
   revert UP b0 r0 b0_0 b0_1 r0_0 r0_1; refine lg7 u1 ?_; intro UP b0 r0 b0_0 b0_1 r0_0 r0_1
   replace r0_f0 := r0.free
   clear u1
   simp only [List.length_cons, List.length_nil, Nat.zero_add] at on
   have b0_0a := cA b0_0
   have b0_1a := cA b0_1
   have r0_0a := cA r0_0
   have r0_f0a := r0.fa
   have r0_1a := cA r0_1
   go_wp2_with fail
   clear b0_0a b0_1a r0_0a r0_f0a r0_1a
   have x6 := Bx.new 84 W1 [.slice none 0 0, .slice Aon 1 con]
   have b0_lt_x6 := b0.lt
   have r0_lt_x6 := r0.lt
   have nu := ((Up.refl W1).alloc (.cells #[.slice none 0 0, .slice Aon 1 con] 84))
   revert UP b0 r0 on; revert nu; refine lh4 ?_; intro UP b0 r0 on
   generalize (W1.alloc (.cells #[.slice none 0 0, .slice Aon 1 con] 84)) = W2 at *
   clear b0_0 b0_1 r0_0 r0_1
   obtain ⟨b0_0, b0_1⟩ := b0.c2
   obtain ⟨r0_0, r0_1⟩ := r0.c2
   replace r0_f0 := r0.free
   obtain ⟨x6_0, x6_1⟩ := x6.c2
   clear on
   ((with_reducible refine (frac_of (n := 1) (by omega) _).mono ?_))
   rintro e W3 ⟨V3, rfl, o, u3⟩
   clear x6_0 x6_1; revert x6 UP b0 r0 b0_0 b0_1 r0_0 r0_1; refine lg8 u3 ?_; intro x6 UP b0 r0 b0_0 b0_1 r0_0 r0_1
   replace r0_f0 := r0.free
   obtain ⟨x6_0, x6_1⟩ := x6.c2
   clear u3
   rw [HP0.out] at o
   go_wp2_with fail
   ((with_reducible refine (ratf_of (o.fr LO) (by omega) (by omega) HR1).mono ?_))
   rintro e W4 ⟨V4, U4, rfl, i, ie, u4⟩
   obtain ⟨Ai, ci, rfl⟩ := i.form
   obtain ⟨Aie, cie, rfl⟩ := ie.form
   try simp only [List.length_cons, List.length_nil, Nat.zero_add] at ie
   clear x6_0 x6_1; revert o x6 UP b0 r0 b0_0 b0_1 r0_0 r0_1; refine lg9 u4 ?_; intro o x6 UP b0 r0 b0_0 b0_1 r0_0 r0_1
   replace r0_f0 := r0.free
   obtain ⟨x6_0, x6_1⟩ := x6.c2
   clear u4
   clear o
   have b0_0a := cA b0_0
   have b0_1a := cA b0_1
   have r0_0a := cA r0_0
   have r0_f0a := r0.fa
   have r0_1a := cA r0_1
   have x6_0a := cA x6_0
   have x6_1a := cA x6_1
   go_wp2_with (with_reducible show wpList _ _ _ _ _ _; refine wl_max (o := ⟨some 30, _, _, _, _, _⟩) rfl _ _ _ _ rfl rfl rfl HM.out ?_)
   clear b0_0a b0_1a r0_0a r0_f0a r0_1a x6_0a x6_1a
   have x1 := Bx.new 84 W4 [.slice Ai R1.length ci, .slice Aie 1 cie]
   have b0_lt_x1 := b0.lt
   have b0_ne_x1 : ¬ (w.heap.size = W4.heap.size) := by omega
   have b0_en_x1 : ¬ (W4.heap.size = w.heap.size) := by omega
   have r0_lt_x1 := r0.lt
   have r0_ne_x1 : ¬ (w.heap.size + 1 = W4.heap.size) := by omega
   have r0_en_x1 : ¬ (W4.heap.size = w.heap.size + 1) := by omega
   have x6_lt_x1 := x6.lt
   have x6_ne_x1 : ¬ (W1.heap.size = W4.heap.size) := by omega
   have x6_en_x1 : ¬ (W4.heap.size = W1.heap.size) := by omega
   have nu := ((Up.refl W4).alloc (.cells #[.slice Ai R1.length ci, .slice Aie 1 cie] 84))
   revert i ie x6 UP b0 r0; revert nu; refine lh6 ?_; intro i ie x6 UP b0 r0
   generalize (W4.alloc (.cells #[.slice Ai R1.length ci, .slice Aie 1 cie] 84)) = W5 at *
   clear b0_0 b0_1 r0_0 r0_1 x6_0 x6_1
   obtain ⟨b0_0, b0_1⟩ := b0.c2
   obtain ⟨r0_0, r0_1⟩ := r0.c2
   replace r0_f0 := r0.free
   obtain ⟨x6_0, x6_1⟩ := x6.c2
   obtain ⟨x1_0, x1_1⟩ := x1.c2
   have x1_f0 := x1.free
   go_loopw [31] (fun s7 wr => ∃ (n : Nat) (A' D' : Option Addr) (n1 c1 n2 c2 : Nat), s7 = .int .i64 n ∧ n ≤ N ∧ Bx 84 wr W4.heap.size [.slice A' n1 c1, .slice D' n2 c2] ∧ ARow 3000 wr (.slice A' n1 c1) (Pq.pwl U n) ∧ ARow 3000 wr (.slice D' n2 c2) (Pq.pwl E0 n) ∧ Bx 84 wr w.heap.size [.slice A p.length c, .slice B q.length d] ∧ Bx 84 wr (w.heap.size + 1) [.slice none 0 0, .slice none 0 0] ∧ Up w wr) (fun s7 _ => N - (intOf s7).toNat)
   case atStart => exact ⟨0, _, _, _, _, _, _, rfl, Nat.zero_le _, x1, by rw [show Pq.pwl U 0 = R1 from HRN.out.symm]; exact i.mono (by omega), ie.mono (by omega), b0, r0, UP⟩
   case round =>
    obtain ⟨n, A', D', n1, c1, n2, c2, rfl, hn, x1, X, XE, b0, r0, UP⟩ := hrel
    obtain ⟨b0_0, b0_1⟩ := b0.c2
    obtain ⟨r0_0, r0_1⟩ := r0.c2
    have r0_f0 := r0.free
    obtain ⟨x1_0, x1_1⟩ := x1.c2
    have x1_f0 := x1.free
    by_cases hlt : n < N
    · skip
      have L1 := HLP.out n (by omega)
      have l1 := HLU.out n
      have l2 := HLD.out n
      go_wp2_with fail
      ((with_reducible refine (ratf_mul (k := 3000) X.fs XE.fs (m := 5) (by omega) (by omega) (by omega) (L1.mono (show n * (48 + 1) + 3 ≤ 101 by omega)) ((HH.out.up UP).mono (by omega)) ((HH2.out.up UP).mono (by omega)) lp lq (by omega) LJ.out 7 (by omega) (by omega) (K := 1540) (by omega) (by omega) (by omega) (by omega) (Lib.hid (Pq.pu_of (HNP.out n))) (Lib.hid (Pq.pd_of (HNP.out n))) HP HD).mono ?_))
      rintro e W51 ⟨V51, U51, psy, qsy, rfl, y, ye, cay, lpy, ley, u51⟩
      obtain ⟨Ay, cy, rfl⟩ := y.form
      obtain ⟨Aye, cye, rfl⟩ := ye.form
      clear x1_0 x1_1; revert x1 X XE b0 r0 UP b0_0 b0_1 r0_0 r0_1; refine lg10 u51 ?_; intro x1 X XE b0 r0 UP b0_0 b0_1 r0_0 r0_1
      replace r0_f0 := r0.free
      obtain ⟨x1_0, x1_1⟩ := x1.c2
      replace x1_f0 := x1.free
      clear u51
      have HE := Lib.hid (HSTEP.out n _ _ cay.out)
      clear L1 l1 l2
      clear X XE
      go_wp2_with fail
      have KW : Kw (W51) ((W51).setCell ⟨W4.heap.size, 0, none⟩ (.slice Ay psy.length cy)) := Kw.store (c := (.slice A' n1 c1)) x1 rfl trivial _
      replace y := y.stored x1 (by decide) KW
      replace ye := ye.stored x1 (by decide) KW
      replace b0 := b0.fr (W4.heap.size) 0 (.slice Ay psy.length cy)
      replace r0 := r0.fr (W4.heap.size) 0 (.slice Ay psy.length cy)
      replace x1 : Bx 84 ((W51).setCell ⟨W4.heap.size, 0, none⟩ (.slice Ay psy.length cy)) (W4.heap.size) [.slice Ay psy.length cy, .slice D' n2 c2] := x1.set 0 (.slice Ay psy.length cy)
      replace UP := UP.setCell (p := ⟨W4.heap.size, 0, none⟩) (by dsimp only; omega) (.slice Ay psy.length cy)
      have KW : Kw (((W51).setCell ⟨W4.heap.size, 0, none⟩ (.slice Ay psy.length cy))) ((((W51).setCell ⟨W4.heap.size, 0, none⟩ (.slice Ay psy.length cy))).setCell ⟨W4.heap.size, 1, none⟩ (.slice Aye qsy.length cye)) := Kw.store (c := (.slice D' n2 c2)) x1 rfl trivial _
      replace y := y.stored x1 (by decide) KW
      replace ye := ye.stored x1 (by decide) KW
      replace b0 := b0.fr (W4.heap.size) 1 (.slice Aye qsy.length cye)
      replace r0 := r0.fr (W4.heap.size) 1 (.slice Aye qsy.length cye)
      replace x1 : Bx 84 ((((W51).setCell ⟨W4.heap.size, 0, none⟩ (.slice Ay psy.length cy))).setCell ⟨W4.heap.size, 1, none⟩ (.slice Aye qsy.length cye)) (W4.heap.size) [.slice Ay psy.length cy, .slice Aye qsy.length cye] := x1.set 1 (.slice Aye qsy.length cye)
      replace UP := UP.setCell (p := ⟨W4.heap.size, 1, none⟩) (by dsimp only; omega) (.slice Aye qsy.length cye)
      clear KW
      generalize ((((W51).setCell ⟨W4.heap.size, 0, none⟩ (.slice Ay psy.length cy))).setCell ⟨W4.heap.size, 1, none⟩ (.slice Aye qsy.length cye)) = W52 at *
      clear b0_0 b0_1 r0_0 r0_1 x1_0 x1_1
      obtain ⟨b0_0, b0_1⟩ := b0.c2
      obtain ⟨r0_0, r0_1⟩ := r0.c2
      replace r0_f0 := r0.free
      obtain ⟨x1_0, x1_1⟩ := x1.c2
      go_roundw
      case rel => exact ⟨n + 1, _, _, _, _, _, _, by go_num, by omega, x1, by rw [← HE.out.1]; exact y.mono (by omega), by rw [← HE.out.2]; exact ye.mono (by omega), b0, r0, UP⟩
      case measure => simp [intOf]; omega
    · obtain rfl : n = N := by omega
      go_wp2_with fail
      have KW : Kw (wr) ((wr).setCell ⟨w.heap.size + 1, 0, none⟩ (.slice A' n1 c1)) := Kw.store (c := (.slice none 0 0)) r0 rfl trivial _
      replace X := X.stored r0 (by decide) KW
      replace XE := XE.stored r0 (by decide) KW
      replace b0 := b0.fr (w.heap.size + 1) 0 (.slice A' n1 c1)
      replace x1 := x1.fr (w.heap.size + 1) 0 (.slice A' n1 c1)
      replace r0 : Bx 84 ((wr).setCell ⟨w.heap.size + 1, 0, none⟩ (.slice A' n1 c1)) (w.heap.size + 1) [.slice A' n1 c1, .slice none 0 0] := r0.set 0 (.slice A' n1 c1)
      replace UP := UP.setCell (p := ⟨w.heap.size + 1, 0, none⟩) (by dsimp only; omega) (.slice A' n1 c1)
      have KW : Kw (((wr).setCell ⟨w.heap.size + 1, 0, none⟩ (.slice A' n1 c1))) ((((wr).setCell ⟨w.heap.size + 1, 0, none⟩ (.slice A' n1 c1))).setCell ⟨w.heap.size + 1, 1, none⟩ (.slice D' n2 c2)) := Kw.store (c := (.slice none 0 0)) r0 rfl trivial _
      replace X := X.stored r0 (by decide) KW
      replace XE := XE.stored r0 (by decide) KW
      replace b0 := b0.fr (w.heap.size + 1) 1 (.slice D' n2 c2)
      replace x1 := x1.fr (w.heap.size + 1) 1 (.slice D' n2 c2)
      replace r0 : Bx 84 ((((wr).setCell ⟨w.heap.size + 1, 0, none⟩ (.slice A' n1 c1))).setCell ⟨w.heap.size + 1, 1, none⟩ (.slice D' n2 c2)) (w.heap.size + 1) [.slice A' n1 c1, .slice D' n2 c2] := r0.set 1 (.slice D' n2 c2)
      replace UP := UP.setCell (p := ⟨w.heap.size + 1, 1, none⟩) (by dsimp only; omega) (.slice D' n2 c2)
      clear KW
      generalize ((((wr).setCell ⟨w.heap.size + 1, 0, none⟩ (.slice A' n1 c1))).setCell ⟨w.heap.size + 1, 1, none⟩ (.slice D' n2 c2)) = W51 at *
      clear b0_0 b0_1 r0_0 r0_1 x1_0 x1_1
      obtain ⟨b0_0, b0_1⟩ := b0.c2
      obtain ⟨r0_0, r0_1⟩ := r0.c2
      obtain ⟨x1_0, x1_1⟩ := x1.c2
      replace x1_f0 := x1.free
      exact bodyPost_ret (run_res_cell_tmp rfl rfl agg_fun size_fun r0 rfl) rfl ⟨_, _, by rw [HR.out.2.2]; rfl, by rw [HR.out.1]; exact X, by rw [HR.out.2.1]; exact XE, UP⟩
end Go.Proofs.YtmmcffceeahemaaGreat
