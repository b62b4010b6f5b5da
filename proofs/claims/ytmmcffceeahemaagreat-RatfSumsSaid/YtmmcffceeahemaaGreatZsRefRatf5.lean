/-
  Layer 15, the document's answers: powers.
-/
import Derived.Test.YtmmcffceeahemaaGreatZsRatfPowMath
import Derived.Test.YtmmcffceeahemaaGreatZsShort
set_option linter.unusedVariables false
set_option linter.unusedSimpArgs false
namespace Go.Proofs.YtmmcffceeahemaaGreat
open Go.RowKit
/-- Rows of the document's come back, given, and a Bool. -/
def RetGAB (t : Bool) (K : Nat) (P Q : List Rat) (w : World) (e : Ending) (w' : World) : Prop := ∃ V U, e = .returned (.tuple #[.agg #[V, U], .bool t]) ∧ GRow K w' V P ∧ GRow K w' U Q ∧ Up w w'
set_option maxRecDepth 100000 in
set_option maxHeartbeats 12800000 in
theorem ref_pow15 {v u : Value} {U D : List Rat} {w : World} {e : Int} (HC : Hid (Pq.Can U D U D)) (h : QSq 48 w v U) (h2 : QSq 48 w u D) (lU : U.length ≤ 3) (lD : D.length ≤ 3) (LJ : Hid (Pq.Lp (U ++ D) 48)) (he : -9223372036854775808 ≤ e ∧ e ≤ 9223372036854775807) (hin : e < -8 ∨ 8 < e ∨ -3 ≤ e ∧ e ≤ 3) :
 Calls Tryz.prog 80 #[.agg #[v, u], .int .i64 e] w (RetGAB (Pq.pwB U e) 3000 (Pq.pwU U D e) (Pq.pwD U D e) w) := by
 obtain ⟨A, c, rfl⟩ := h.form
 obtain ⟨B, d, rfl⟩ := h2.form
 have HH := Lib.hid h
 have HH2 := Lib.hid h2
 clear h h2
 by_cases hok : Pq.pwB U e = true
 rotate_left
 · have hno : Pq.pwB U e = false := by simpa using hok
   have HR : Hid (Pq.pwU U D e = [] ∧ Pq.pwD U D e = [1] ∧ Pq.pwB U e = false) := Lib.hid ⟨by unfold Pq.pwU; rw [hno]; rfl, by unfold Pq.pwD; rw [hno]; rfl, hno⟩
   unfold Pq.pwB at hno
   have hno := of_decide_eq_false hno
   clear hok
   obtain ⟨P0, HP0⟩ : ∃ P, Hid (((0 : Int) : Rat) = P) := ⟨_, Lib.hid rfl⟩
   have LO : Wd.Lq P0 2 := by rw [← HP0.out]; exact lq_int (by omega)
   obtain ⟨R0, HR0⟩ : ∃ R, Hid (Pq.nm [P0] = R) := ⟨_, Lib.hid rfl⟩
   have HRN : Hid (Pq.pwU U D e = R0) := Lib.hid (by rw [HR.out.1, ← HR0.out, ← HP0.out]; exact (Pq.nm_nil (fun x => by simp only [Pq.E]; grind)).symm)
   by_cases c1 : e < -8
   · clear hno
     have UP : Up w ((w.alloc (.cells #[.slice A U.length c, .slice B D.length d] 80)).alloc (.cells #[.slice none 0 0, .slice none 0 0] 80)) := ((Up.refl w).alloc _).alloc _
     obtain ⟨b0, r0⟩ := bx_two 80 80 w [.slice A U.length c, .slice B D.length d] [.slice none 0 0, .slice none 0 0]
     go_enter Tryz.func80, Tryz.ntmps80
     go_wp2_with fail
     generalize ((w.alloc (.cells #[.slice A U.length c, .slice B D.length d] 80)).alloc (.cells #[.slice none 0 0, .slice none 0 0] 80)) = W at *
     obtain ⟨b0_0, b0_1⟩ := b0.c2
     obtain ⟨r0_0, r0_1⟩ := r0.c2
     have r0_f0 := r0.free
     skip
     go_wp2_with fail
     ((with_reducible refine (ref9_int (n := 0) (by omega) _).mono ?_))
     rintro e W1 ⟨V1, rfl, o, u1⟩
     revert UP b0 r0 b0_0 b0_1 r0_0 r0_1; refine lg7 u1 ?_; intro UP b0 r0 b0_0 b0_1 r0_0 r0_1
     replace r0_f0 := r0.free
     clear u1
     rw [HP0.out] at o
     go_wp2_with fail
     ((with_reducible refine (ref_of15 o LO (by omega) (by omega) HR0).mono ?_))
     rintro e W2 ⟨V2, U2, rfl, i, ie, u2⟩
     obtain ⟨Ai, ci, rfl⟩ := i.form
     obtain ⟨Aie, cie, rfl⟩ := ie.form
     try simp only [List.length_cons, List.length_nil, Nat.zero_add] at ie
     revert o UP b0 r0 b0_0 b0_1 r0_0 r0_1; refine lg8 u2 ?_; intro o UP b0 r0 b0_0 b0_1 r0_0 r0_1
     replace r0_f0 := r0.free
     clear u2
     clear o
     go_wp2_with fail
     have KW : Kw (W2) ((W2).setCell ⟨w.heap.size + 1, 0, none⟩ (.slice Ai R0.length ci)) := Kw.store (c := (.slice none 0 0)) r0 rfl trivial _
     replace i := i.stored r0 (by decide) KW
     replace ie := ie.stored r0 (by decide) KW
     replace b0 := b0.fr (w.heap.size + 1) 0 (.slice Ai R0.length ci)
     replace r0 : Bx 80 ((W2).setCell ⟨w.heap.size + 1, 0, none⟩ (.slice Ai R0.length ci)) (w.heap.size + 1) [.slice Ai R0.length ci, .slice none 0 0] := r0.set 0 (.slice Ai R0.length ci)
     replace UP := UP.setCell (p := ⟨w.heap.size + 1, 0, none⟩) (by dsimp only; omega) (.slice Ai R0.length ci)
     have KW : Kw (((W2).setCell ⟨w.heap.size + 1, 0, none⟩ (.slice Ai R0.length ci))) ((((W2).setCell ⟨w.heap.size + 1, 0, none⟩ (.slice Ai R0.length ci))).setCell ⟨w.heap.size + 1, 1, none⟩ (.slice Aie 1 cie)) := Kw.store (c := (.slice none 0 0)) r0 rfl trivial _
     replace i := i.stored r0 (by decide) KW
     replace ie := ie.stored r0 (by decide) KW
     replace b0 := b0.fr (w.heap.size + 1) 1 (.slice Aie 1 cie)
     replace r0 : Bx 80 ((((W2).setCell ⟨w.heap.size + 1, 0, none⟩ (.slice Ai R0.length ci))).setCell ⟨w.heap.size + 1, 1, none⟩ (.slice Aie 1 cie)) (w.heap.size + 1) [.slice Ai R0.length ci, .slice Aie 1 cie] := r0.set 1 (.slice Aie 1 cie)
     replace UP := UP.setCell (p := ⟨w.heap.size + 1, 1, none⟩) (by dsimp only; omega) (.slice Aie 1 cie)
     clear KW
     generalize ((((W2).setCell ⟨w.heap.size + 1, 0, none⟩ (.slice Ai R0.length ci))).setCell ⟨w.heap.size + 1, 1, none⟩ (.slice Aie 1 cie)) = W3 at *
     clear b0_0 b0_1 r0_0 r0_1
     obtain ⟨b0_0, b0_1⟩ := b0.c2
     obtain ⟨r0_0, r0_1⟩ := r0.c2
     exact bodyPost_ret (run_res_cell_tmp rfl rfl agg_rfun size_rfun r0 rfl) rfl ⟨_, _, by rw [HR.out.2.2]; rfl, by rw [HRN.out]; exact i.mono (by omega), by rw [HR.out.2.1]; exact ie.mono (by omega), UP⟩
   · by_cases c2 : 8 < e
     · clear hno
       have UP : Up w ((w.alloc (.cells #[.slice A U.length c, .slice B D.length d] 80)).alloc (.cells #[.slice none 0 0, .slice none 0 0] 80)) := ((Up.refl w).alloc _).alloc _
       obtain ⟨b0, r0⟩ := bx_two 80 80 w [.slice A U.length c, .slice B D.length d] [.slice none 0 0, .slice none 0 0]
       go_enter Tryz.func80, Tryz.ntmps80
       go_wp2_with fail
       generalize ((w.alloc (.cells #[.slice A U.length c, .slice B D.length d] 80)).alloc (.cells #[.slice none 0 0, .slice none 0 0] 80)) = W at *
       obtain ⟨b0_0, b0_1⟩ := b0.c2
       obtain ⟨r0_0, r0_1⟩ := r0.c2
       have r0_f0 := r0.free
       skip
       go_wp2_with fail
       ((with_reducible refine (ref9_int (n := 0) (by omega) _).mono ?_))
       rintro e W1 ⟨V1, rfl, o, u1⟩
       revert UP b0 r0 b0_0 b0_1 r0_0 r0_1; refine lg7 u1 ?_; intro UP b0 r0 b0_0 b0_1 r0_0 r0_1
       replace r0_f0 := r0.free
       clear u1
       rw [HP0.out] at o
       go_wp2_with fail
       ((with_reducible refine (ref_of15 o LO (by omega) (by omega) HR0).mono ?_))
       rintro e W2 ⟨V2, U2, rfl, i, ie, u2⟩
       obtain ⟨Ai, ci, rfl⟩ := i.form
       obtain ⟨Aie, cie, rfl⟩ := ie.form
       try simp only [List.length_cons, List.length_nil, Nat.zero_add] at ie
       revert o UP b0 r0 b0_0 b0_1 r0_0 r0_1; refine lg8 u2 ?_; intro o UP b0 r0 b0_0 b0_1 r0_0 r0_1
       replace r0_f0 := r0.free
       clear u2
       clear o
       go_wp2_with fail
       have KW : Kw (W2) ((W2).setCell ⟨w.heap.size + 1, 0, none⟩ (.slice Ai R0.length ci)) := Kw.store (c := (.slice none 0 0)) r0 rfl trivial _
       replace i := i.stored r0 (by decide) KW
       replace ie := ie.stored r0 (by decide) KW
       replace b0 := b0.fr (w.heap.size + 1) 0 (.slice Ai R0.length ci)
       replace r0 : Bx 80 ((W2).setCell ⟨w.heap.size + 1, 0, none⟩ (.slice Ai R0.length ci)) (w.heap.size + 1) [.slice Ai R0.length ci, .slice none 0 0] := r0.set 0 (.slice Ai R0.length ci)
       replace UP := UP.setCell (p := ⟨w.heap.size + 1, 0, none⟩) (by dsimp only; omega) (.slice Ai R0.length ci)
       have KW : Kw (((W2).setCell ⟨w.heap.size + 1, 0, none⟩ (.slice Ai R0.length ci))) ((((W2).setCell ⟨w.heap.size + 1, 0, none⟩ (.slice Ai R0.length ci))).setCell ⟨w.heap.size + 1, 1, none⟩ (.slice Aie 1 cie)) := Kw.store (c := (.slice none 0 0)) r0 rfl trivial _
       replace i := i.stored r0 (by decide) KW
       replace ie := ie.stored r0 (by decide) KW
       replace b0 := b0.fr (w.heap.size + 1) 1 (.slice Aie 1 cie)
       replace r0 : Bx 80 ((((W2).setCell ⟨w.heap.size + 1, 0, none⟩ (.slice Ai R0.length ci))).setCell ⟨w.heap.size + 1, 1, none⟩ (.slice Aie 1 cie)) (w.heap.size + 1) [.slice Ai R0.length ci, .slice Aie 1 cie] := r0.set 1 (.slice Aie 1 cie)
       replace UP := UP.setCell (p := ⟨w.heap.size + 1, 1, none⟩) (by dsimp only; omega) (.slice Aie 1 cie)
       clear KW
       generalize ((((W2).setCell ⟨w.heap.size + 1, 0, none⟩ (.slice Ai R0.length ci))).setCell ⟨w.heap.size + 1, 1, none⟩ (.slice Aie 1 cie)) = W3 at *
       clear b0_0 b0_1 r0_0 r0_1
       obtain ⟨b0_0, b0_1⟩ := b0.c2
       obtain ⟨r0_0, r0_1⟩ := r0.c2
       exact bodyPost_ret (run_res_cell_tmp rfl rfl agg_rfun size_rfun r0 rfl) rfl ⟨_, _, by rw [HR.out.2.2]; rfl, by rw [HRN.out]; exact i.mono (by omega), by rw [HR.out.2.1]; exact ie.mono (by omega), UP⟩
     · have c3 : e < 0 := by
        rcases Int.lt_or_le e 0 with h | h
        · exact h
        · exact absurd ⟨by omega, by omega, fun hh => by omega⟩ hno
       have HS : Hid (decide (U = []) = true) := Lib.hid (by
        rcases Classical.em (U = []) with h | h
        · exact decide_eq_true h
        · exact absurd ⟨by omega, by omega, fun hh => h hh.2⟩ hno)
       clear hno
       have UP : Up w ((w.alloc (.cells #[.slice A U.length c, .slice B D.length d] 80)).alloc (.cells #[.slice none 0 0, .slice none 0 0] 80)) := ((Up.refl w).alloc _).alloc _
       obtain ⟨b0, r0⟩ := bx_two 80 80 w [.slice A U.length c, .slice B D.length d] [.slice none 0 0, .slice none 0 0]
       go_enter Tryz.func80, Tryz.ntmps80
       go_wp2_with fail
       generalize ((w.alloc (.cells #[.slice A U.length c, .slice B D.length d] 80)).alloc (.cells #[.slice none 0 0, .slice none 0 0] 80)) = W at *
       obtain ⟨b0_0, b0_1⟩ := b0.c2
       obtain ⟨r0_0, r0_1⟩ := r0.c2
       have r0_f0 := r0.free
       go_wp2_with fail
       ((with_reducible refine (ref_zero15 (HH.out.up UP) (HH2.out.up UP) HS).mono ?_))
       rintro e W1 ⟨rfl, u1⟩
       revert UP b0 r0 b0_0 b0_1 r0_0 r0_1; refine lg7 u1 ?_; intro UP b0 r0 b0_0 b0_1 r0_0 r0_1
       replace r0_f0 := r0.free
       clear u1
       go_wp2_with fail
       ((with_reducible refine (ref9_int (n := 0) (by omega) _).mono ?_))
       rintro e W2 ⟨V2, rfl, o, u2⟩
       revert UP b0 r0 b0_0 b0_1 r0_0 r0_1; refine lg7 u2 ?_; intro UP b0 r0 b0_0 b0_1 r0_0 r0_1
       replace r0_f0 := r0.free
       clear u2
       rw [HP0.out] at o
       go_wp2_with fail
       ((with_reducible refine (ref_of15 o LO (by omega) (by omega) HR0).mono ?_))
       rintro e W3 ⟨V3, U3, rfl, i, ie, u3⟩
       obtain ⟨Ai, ci, rfl⟩ := i.form
       obtain ⟨Aie, cie, rfl⟩ := ie.form
       try simp only [List.length_cons, List.length_nil, Nat.zero_add] at ie
       revert o UP b0 r0 b0_0 b0_1 r0_0 r0_1; refine lg8 u3 ?_; intro o UP b0 r0 b0_0 b0_1 r0_0 r0_1
       replace r0_f0 := r0.free
       clear u3
       clear o
       go_wp2_with fail
       have KW : Kw (W3) ((W3).setCell ⟨w.heap.size + 1, 0, none⟩ (.slice Ai R0.length ci)) := Kw.store (c := (.slice none 0 0)) r0 rfl trivial _
       replace i := i.stored r0 (by decide) KW
       replace ie := ie.stored r0 (by decide) KW
       replace b0 := b0.fr (w.heap.size + 1) 0 (.slice Ai R0.length ci)
       replace r0 : Bx 80 ((W3).setCell ⟨w.heap.size + 1, 0, none⟩ (.slice Ai R0.length ci)) (w.heap.size + 1) [.slice Ai R0.length ci, .slice none 0 0] := r0.set 0 (.slice Ai R0.length ci)
       replace UP := UP.setCell (p := ⟨w.heap.size + 1, 0, none⟩) (by dsimp only; omega) (.slice Ai R0.length ci)
       have KW : Kw (((W3).setCell ⟨w.heap.size + 1, 0, none⟩ (.slice Ai R0.length ci))) ((((W3).setCell ⟨w.heap.size + 1, 0, none⟩ (.slice Ai R0.length ci))).setCell ⟨w.heap.size + 1, 1, none⟩ (.slice Aie 1 cie)) := Kw.store (c := (.slice none 0 0)) r0 rfl trivial _
       replace i := i.stored r0 (by decide) KW
       replace ie := ie.stored r0 (by decide) KW
       replace b0 := b0.fr (w.heap.size + 1) 1 (.slice Aie 1 cie)
       replace r0 : Bx 80 ((((W3).setCell ⟨w.heap.size + 1, 0, none⟩ (.slice Ai R0.length ci))).setCell ⟨w.heap.size + 1, 1, none⟩ (.slice Aie 1 cie)) (w.heap.size + 1) [.slice Ai R0.length ci, .slice Aie 1 cie] := r0.set 1 (.slice Aie 1 cie)
       replace UP := UP.setCell (p := ⟨w.heap.size + 1, 1, none⟩) (by dsimp only; omega) (.slice Aie 1 cie)
       clear KW
       generalize ((((W3).setCell ⟨w.heap.size + 1, 0, none⟩ (.slice Ai R0.length ci))).setCell ⟨w.heap.size + 1, 1, none⟩ (.slice Aie 1 cie)) = W4 at *
       clear b0_0 b0_1 r0_0 r0_1
       obtain ⟨b0_0, b0_1⟩ := b0.c2
       obtain ⟨r0_0, r0_1⟩ := r0.c2
       exact bodyPost_ret (run_res_cell_tmp rfl rfl agg_rfun size_rfun r0 rfl) rfl ⟨_, _, by rw [HR.out.2.2]; rfl, by rw [HRN.out]; exact i.mono (by omega), by rw [HR.out.2.1]; exact ie.mono (by omega), UP⟩
 have hok' := hok
 unfold Pq.pwB at hok
 have hok := of_decide_eq_true hok
 obtain ⟨o1, o2, o3⟩ := hok
 obtain ⟨P0, HP0⟩ : ∃ P, Hid (((1 : Int) : Rat) = P) := ⟨_, Lib.hid rfl⟩
 have LO : Wd.Lq P0 2 := by rw [← HP0.out]; exact lq_int (by omega)
 obtain ⟨R1, HR1⟩ : ∃ R, Hid (Pq.nm [P0] = R) := ⟨_, Lib.hid rfl⟩
 have HRN : Hid (R1 = [1]) := Lib.hid (by rw [← HR1.out, ← HP0.out]; exact Pq.nm_one)
 have HND := Lib.hid HC.out.nd
 rcases Int.lt_or_le e 0 with hlt | hge
 · obtain ⟨N, hN⟩ := Int.eq_ofNat_of_zero_le (a := -e) (by omega)
   obtain rfl : e = -(N : Int) := by omega
   have hn8 : N ≤ 3 := by omega
   have hU0 : U ≠ [] := fun hh => o3 ⟨hlt, hh⟩
   have hUN : Hid (Pq.nm U ≠ []) := Lib.hid (by rw [Pq.nm_of_tr HC.out.tr]; exact hU0)
   have HV := Lib.hid (Pq.can_inv HC.out hU0)
   have HLV := Lib.hid (Pq.lp_inv LJ.out HC.out hU0)
   have HR : Hid (Pq.pwU U D (-(N : Int)) = Pq.pwl (Pq.sc (Pq.ivc U D) D) N ∧ Pq.pwD U D (-(N : Int)) = Pq.pwl (Pq.sc (Pq.ivc U D) U) N ∧ Pq.pwB U (-(N : Int)) = true) := Lib.hid ⟨by unfold Pq.pwU; rw [hok', if_pos rfl, if_pos hlt]; simp, by unfold Pq.pwD; rw [hok', if_pos rfl, if_pos hlt]; simp, hok'⟩
   obtain ⟨VV, HVV⟩ : ∃ r, Hid (Pq.sc (Pq.ivc U D) D = r) := ⟨_, Lib.hid rfl⟩
   obtain ⟨FF, HFF⟩ : ∃ r, Hid (Pq.sc (Pq.ivc U D) U = r) := ⟨_, Lib.hid rfl⟩
   have lV : VV.length ≤ 2 + 1 := by rw [← HVV.out, Pq.sc_len]; omega
   have lF : FF.length ≤ 2 + 1 := by rw [← HFF.out, Pq.sc_len]; omega
   rw [HVV.out, HFF.out] at HV HLV HR
   have HLP : Hid (∀ n, n ≤ 50 → Pq.Lp (Pq.pwl VV n ++ Pq.pwl FF n) (n * (48 + 1) + 3)) := Lib.hid (Pq.pwl_lp HLV.out (by omega) (by omega))
   have HLU : Hid (∀ n, (Pq.pwl VV n).length ≤ n * 2 + 1) := Lib.hid (Pq.pwl_len lV)
   have HLD : Hid (∀ n, (Pq.pwl FF n).length ≤ n * 2 + 1) := Lib.hid (Pq.pwl_len lF)
   have HNP : Hid (∀ n, Pq.nm (Pq.pwl FF n) ≠ []) := Lib.hid (fun n => (Pq.can_pow HV.out.self n).nd)
   have HSTEP : Hid (∀ n us ds, Pq.Can (Pq.nm (Pq.mul (Pq.pwl VV n) D)) (Pq.nm (Pq.mul (Pq.pwl FF n) U)) us ds → us = Pq.pwl VV (n + 1) ∧ ds = Pq.pwl FF (n + 1)) := Lib.hid (fun n us ds hc => Pq.pow_down hUN.out HV.out hc)
   have HS : Hid (decide (U = []) = false) := Lib.hid (decide_eq_false hU0)
   have hN1 : 0 < N := by omega
   clear hN o3 hok' hU0 hin
   have UP : Up w ((w.alloc (.cells #[.slice A U.length c, .slice B D.length d] 80)).alloc (.cells #[.slice none 0 0, .slice none 0 0] 80)) := ((Up.refl w).alloc _).alloc _
   obtain ⟨b0, r0⟩ := bx_two 80 80 w [.slice A U.length c, .slice B D.length d] [.slice none 0 0, .slice none 0 0]
   go_enter Tryz.func80, Tryz.ntmps80
   go_wp2_with fail
   generalize ((w.alloc (.cells #[.slice A U.length c, .slice B D.length d] 80)).alloc (.cells #[.slice none 0 0, .slice none 0 0] 80)) = W at *
   obtain ⟨b0_0, b0_1⟩ := b0.c2
   obtain ⟨r0_0, r0_1⟩ := r0.c2
   have r0_f0 := r0.free
   go_wp2_with fail
   ((with_reducible refine (ref_zero15 (HH.out.up UP) (HH2.out.up UP) HS).mono ?_))
   rintro e W1 ⟨rfl, u1⟩
   revert UP b0 r0 b0_0 b0_1 r0_0 r0_1; refine lg7 u1 ?_; intro UP b0 r0 b0_0 b0_1 r0_0 r0_1
   replace r0_f0 := r0.free
   clear u1
   go_wp2_with fail
   ((with_reducible refine (ref9_int (n := 1) (by omega) _).mono ?_))
   rintro e W2 ⟨V2, rfl, o, u2⟩
   revert UP b0 r0 b0_0 b0_1 r0_0 r0_1; refine lg7 u2 ?_; intro UP b0 r0 b0_0 b0_1 r0_0 r0_1
   replace r0_f0 := r0.free
   clear u2
   rw [HP0.out] at o
   go_wp2_with fail
   ((with_reducible refine (ref_of15 o LO (by omega) (by omega) HR1).mono ?_))
   rintro e W3 ⟨V3, U3, rfl, i, ie, u3⟩
   obtain ⟨Ai, ci, rfl⟩ := i.form
   obtain ⟨Aie, cie, rfl⟩ := ie.form
   try simp only [List.length_cons, List.length_nil, Nat.zero_add] at ie
   revert o UP b0 r0 b0_0 b0_1 r0_0 r0_1; refine lg8 u3 ?_; intro o UP b0 r0 b0_0 b0_1 r0_0 r0_1
   replace r0_f0 := r0.free
   clear u3
   clear o
   have b0_0a := cA b0_0
   have b0_1a := cA b0_1
   have r0_0a := cA r0_0
   have r0_f0a := r0.fa
   have r0_1a := cA r0_1
   go_wp2_with fail
   clear b0_0a b0_1a r0_0a r0_f0a r0_1a
   have x1 := Bx.new 80 W3 [.slice Ai R1.length ci, .slice Aie 1 cie]
   have b0_lt_x1 := b0.lt
   have b0_ne_x1 : ¬ (w.heap.size = W3.heap.size) := by omega
   have b0_en_x1 : ¬ (W3.heap.size = w.heap.size) := by omega
   have r0_lt_x1 := r0.lt
   have r0_ne_x1 : ¬ (w.heap.size + 1 = W3.heap.size) := by omega
   have r0_en_x1 : ¬ (W3.heap.size = w.heap.size + 1) := by omega
   have nu := ((Up.refl W3).alloc (.cells #[.slice Ai R1.length ci, .slice Aie 1 cie] 80))
   revert i ie UP b0 r0; revert nu; refine lh5 ?_; intro i ie UP b0 r0
   generalize (W3.alloc (.cells #[.slice Ai R1.length ci, .slice Aie 1 cie] 80)) = W4 at *
   clear b0_0 b0_1 r0_0 r0_1
   obtain ⟨b0_0, b0_1⟩ := b0.c2
   obtain ⟨r0_0, r0_1⟩ := r0.c2
   replace r0_f0 := r0.free
   obtain ⟨x1_0, x1_1⟩ := x1.c2
   have x1_f0 := x1.free
   refine wp_loop_rounds 1 ?_
   rw [rounds_succ]
   go_wp2_with fail
   go_loopw [8] (fun s7 wr => ∃ (n : Nat) (A' D' : Option Addr) (n1 c1 n2 c2 : Nat), s7 = .int .i64 (-(n : Int)) ∧ n ≤ N ∧ Bx 80 wr W3.heap.size [.slice A' n1 c1, .slice D' n2 c2] ∧ GRow 3000 wr (.slice A' n1 c1) (Pq.pwl VV n) ∧ GRow 3000 wr (.slice D' n2 c2) (Pq.pwl FF n) ∧ Bx 80 wr w.heap.size [.slice A U.length c, .slice B D.length d] ∧ Bx 80 wr (w.heap.size + 1) [.slice none 0 0, .slice none 0 0] ∧ Up w wr) (fun s7 _ => N - (-(intOf s7)).toNat)
   case atStart => exact ⟨0, _, _, _, _, _, _, rfl, Nat.zero_le _, x1, by rw [show Pq.pwl VV 0 = R1 from HRN.out.symm]; exact i.mono (by omega), ie.mono (by omega), b0, r0, UP⟩
   case round =>
    obtain ⟨n, A', D', n1, c1, n2, c2, rfl, hn, x1, X, XE, b0, r0, UP⟩ := hrel
    obtain ⟨b0_0, b0_1⟩ := b0.c2
    obtain ⟨r0_0, r0_1⟩ := r0.c2
    have r0_f0 := r0.free
    obtain ⟨x1_0, x1_1⟩ := x1.c2
    have x1_f0 := x1.free
    by_cases hlt : n < N
    · skip
      have L1 := HLP.out n (by omega)
      have l1 := HLU.out n
      have l2 := HLD.out n
      go_wp2_with fail
      ((with_reducible refine (ref_quo15 (k := 3000) X.q XE.q (m := 5) (by omega) (by omega) (by omega) (L1.mono (show n * (48 + 1) + 3 ≤ 101 by omega)) ((HH.out.up UP).mono (by omega)) ((HH2.out.up UP).mono (by omega)) lU lD (by omega) LJ.out 7 (by omega) (by omega) (K := 2114) (DD := 19034) (Z := 154386) (by omega) (by omega) (by omega) (by omega) (by omega) (Lib.hid (HNP.out n)) hUN).mono ?_))
      rintro e W51 ⟨V51, U51, psy, qsy, rfl, y, ye, cay, lpy, ley, u51⟩
      obtain ⟨Ay, cy, rfl⟩ := y.form
      obtain ⟨Aye, cye, rfl⟩ := ye.form
      clear x1_0 x1_1; revert x1 X XE b0 r0 UP b0_0 b0_1 r0_0 r0_1; refine lg10 u51 ?_; intro x1 X XE b0 r0 UP b0_0 b0_1 r0_0 r0_1
      replace r0_f0 := r0.free
      obtain ⟨x1_0, x1_1⟩ := x1.c2
      replace x1_f0 := x1.free
      clear u51
      have HE := Lib.hid (HSTEP.out n _ _ cay.out)
      clear L1 l1 l2
      clear X XE
      go_wp2_with fail
      have KW : Kw (W51) ((W51).setCell ⟨W3.heap.size, 0, none⟩ (.slice Ay psy.length cy)) := Kw.store (c := (.slice A' n1 c1)) x1 rfl trivial _
      replace y := y.stored x1 (by decide) KW
      replace ye := ye.stored x1 (by decide) KW
      replace b0 := b0.fr (W3.heap.size) 0 (.slice Ay psy.length cy)
      replace r0 := r0.fr (W3.heap.size) 0 (.slice Ay psy.length cy)
      replace x1 : Bx 80 ((W51).setCell ⟨W3.heap.size, 0, none⟩ (.slice Ay psy.length cy)) (W3.heap.size) [.slice Ay psy.length cy, .slice D' n2 c2] := x1.set 0 (.slice Ay psy.length cy)
      replace UP := UP.setCell (p := ⟨W3.heap.size, 0, none⟩) (by dsimp only; omega) (.slice Ay psy.length cy)
      have KW : Kw (((W51).setCell ⟨W3.heap.size, 0, none⟩ (.slice Ay psy.length cy))) ((((W51).setCell ⟨W3.heap.size, 0, none⟩ (.slice Ay psy.length cy))).setCell ⟨W3.heap.size, 1, none⟩ (.slice Aye qsy.length cye)) := Kw.store (c := (.slice D' n2 c2)) x1 rfl trivial _
      replace y := y.stored x1 (by decide) KW
      replace ye := ye.stored x1 (by decide) KW
      replace b0 := b0.fr (W3.heap.size) 1 (.slice Aye qsy.length cye)
      replace r0 := r0.fr (W3.heap.size) 1 (.slice Aye qsy.length cye)
      replace x1 : Bx 80 ((((W51).setCell ⟨W3.heap.size, 0, none⟩ (.slice Ay psy.length cy))).setCell ⟨W3.heap.size, 1, none⟩ (.slice Aye qsy.length cye)) (W3.heap.size) [.slice Ay psy.length cy, .slice Aye qsy.length cye] := x1.set 1 (.slice Aye qsy.length cye)
      replace UP := UP.setCell (p := ⟨W3.heap.size, 1, none⟩) (by dsimp only; omega) (.slice Aye qsy.length cye)
      clear KW
      generalize ((((W51).setCell ⟨W3.heap.size, 0, none⟩ (.slice Ay psy.length cy))).setCell ⟨W3.heap.size, 1, none⟩ (.slice Aye qsy.length cye)) = W52 at *
      clear b0_0 b0_1 r0_0 r0_1 x1_0 x1_1
      obtain ⟨b0_0, b0_1⟩ := b0.c2
      obtain ⟨r0_0, r0_1⟩ := r0.c2
      replace r0_f0 := r0.free
      obtain ⟨x1_0, x1_1⟩ := x1.c2
      go_roundw
      case rel => exact ⟨n + 1, _, _, _, _, _, _, by first | go_num | (congr 1; omega), by omega, x1, by rw [← HE.out.1]; exact y.mono (by omega), by rw [← HE.out.2]; exact ye.mono (by omega), b0, r0, UP⟩
      case measure => simp [intOf]; omega
    · obtain rfl : n = N := by omega
      go_wp2_with fail
      have KW : Kw (wr) ((wr).setCell ⟨w.heap.size + 1, 0, none⟩ (.slice A' n1 c1)) := Kw.store (c := (.slice none 0 0)) r0 rfl trivial _
      replace X := X.stored r0 (by decide) KW
      replace XE := XE.stored r0 (by decide) KW
      replace b0 := b0.fr (w.heap.size + 1) 0 (.slice A' n1 c1)
      replace x1 := x1.fr (w.heap.size + 1) 0 (.slice A' n1 c1)
      replace r0 : Bx 80 ((wr).setCell ⟨w.heap.size + 1, 0, none⟩ (.slice A' n1 c1)) (w.heap.size + 1) [.slice A' n1 c1, .slice none 0 0] := r0.set 0 (.slice A' n1 c1)
      replace UP := UP.setCell (p := ⟨w.heap.size + 1, 0, none⟩) (by dsimp only; omega) (.slice A' n1 c1)
      have KW : Kw (((wr).setCell ⟨w.heap.size + 1, 0, none⟩ (.slice A' n1 c1))) ((((wr).setCell ⟨w.heap.size + 1, 0, none⟩ (.slice A' n1 c1))).setCell ⟨w.heap.size + 1, 1, none⟩ (.slice D' n2 c2)) := Kw.store (c := (.slice none 0 0)) r0 rfl trivial _
      replace X := X.stored r0 (by decide) KW
      replace XE := XE.stored r0 (by decide) KW
      replace b0 := b0.fr (w.heap.size + 1) 1 (.slice D' n2 c2)
      replace x1 := x1.fr (w.heap.size + 1) 1 (.slice D' n2 c2)
      replace r0 : Bx 80 ((((wr).setCell ⟨w.heap.size + 1, 0, none⟩ (.slice A' n1 c1))).setCell ⟨w.heap.size + 1, 1, none⟩ (.slice D' n2 c2)) (w.heap.size + 1) [.slice A' n1 c1, .slice D' n2 c2] := r0.set 1 (.slice D' n2 c2)
      replace UP := UP.setCell (p := ⟨w.heap.size + 1, 1, none⟩) (by dsimp only; omega) (.slice D' n2 c2)
      clear KW
      generalize ((((wr).setCell ⟨w.heap.size + 1, 0, none⟩ (.slice A' n1 c1))).setCell ⟨w.heap.size + 1, 1, none⟩ (.slice D' n2 c2)) = W51 at *
      clear b0_0 b0_1 r0_0 r0_1 x1_0 x1_1
      obtain ⟨b0_0, b0_1⟩ := b0.c2
      obtain ⟨r0_0, r0_1⟩ := r0.c2
      obtain ⟨x1_0, x1_1⟩ := x1.c2
      replace x1_f0 := x1.free
      exact bodyPost_ret (run_res_cell_tmp rfl rfl agg_rfun size_rfun r0 rfl) rfl ⟨_, _, by rw [HR.out.2.2]; rfl, by rw [HR.out.1]; exact X, by rw [HR.out.2.1]; exact XE, UP⟩
 · obtain ⟨N, rfl⟩ := Int.eq_ofNat_of_zero_le hge
   have hn8 : N ≤ 3 := by omega
   have HR : Hid (Pq.pwU U D (N : Int) = Pq.pwl U N ∧ Pq.pwD U D (N : Int) = Pq.pwl D N ∧ Pq.pwB U (N : Int) = true) := Lib.hid ⟨by unfold Pq.pwU; rw [hok', if_pos rfl, if_neg (by omega)]; simp, by unfold Pq.pwD; rw [hok', if_pos rfl, if_neg (by omega)]; simp, hok'⟩
   have HLP : Hid (∀ n, n ≤ 50 → Pq.Lp (Pq.pwl U n ++ Pq.pwl D n) (n * (48 + 1) + 3)) := Lib.hid (Pq.pwl_lp LJ.out (by omega) (by omega))
   have HLU : Hid (∀ n, (Pq.pwl U n).length ≤ n * 2 + 1) := Lib.hid (Pq.pwl_len lU)
   have HLD : Hid (∀ n, (Pq.pwl D n).length ≤ n * 2 + 1) := Lib.hid (Pq.pwl_len lD)
   have HNP : Hid (∀ n, Pq.nm (Pq.pwl D n) ≠ []) := Lib.hid (fun n => (Pq.can_pow HC.out n).nd)
   have HSTEP : Hid (∀ n us ds, Pq.Can (Pq.nm (Pq.mul (Pq.pwl U n) U)) (Pq.nm (Pq.mul (Pq.pwl D n) D)) us ds → us = Pq.pwl U (n + 1) ∧ ds = Pq.pwl D (n + 1)) := Lib.hid (fun n us ds hc => Pq.pow_up HND.out HC.out hc)
   clear hge o3 hok' hin
   have UP : Up w ((w.alloc (.cells #[.slice A U.length c, .slice B D.length d] 80)).alloc (.cells #[.slice none 0 0, .slice none 0 0] 80)) := ((Up.refl w).alloc _).alloc _
   obtain ⟨b0, r0⟩ := bx_two 80 80 w [.slice A U.length c, .slice B D.length d] [.slice none 0 0, .slice none 0 0]
   go_enter Tryz.func80, Tryz.ntmps80
   go_wp2_with fail
   generalize ((w.alloc (.cells #[.slice A U.length c, .slice B D.length d] 80)).alloc (.cells #[.slice none 0 0, .slice none 0 0] 80)) = W at *
   obtain ⟨b0_0, b0_1⟩ := b0.c2
   obtain ⟨r0_0, r0_1⟩ := r0.c2
   have r0_f0 := r0.free
   skip
   go_wp2_with fail
   ((with_reducible refine (ref9_int (n := 1) (by omega) _).mono ?_))
   rintro e W1 ⟨V1, rfl, o, u1⟩
   revert UP b0 r0 b0_0 b0_1 r0_0 r0_1; refine lg7 u1 ?_; intro UP b0 r0 b0_0 b0_1 r0_0 r0_1
   replace r0_f0 := r0.free
   clear u1
   rw [HP0.out] at o
   go_wp2_with fail
   ((with_reducible refine (ref_of15 o LO (by omega) (by omega) HR1).mono ?_))
   rintro e W2 ⟨V2, U2, rfl, i, ie, u2⟩
   obtain ⟨Ai, ci, rfl⟩ := i.form
   obtain ⟨Aie, cie, rfl⟩ := ie.form
   try simp only [List.length_cons, List.length_nil, Nat.zero_add] at ie
   revert o UP b0 r0 b0_0 b0_1 r0_0 r0_1; refine lg8 u2 ?_; intro o UP b0 r0 b0_0 b0_1 r0_0 r0_1
   replace r0_f0 := r0.free
   clear u2
   clear o
   have b0_0a := cA b0_0
   have b0_1a := cA b0_1
   have r0_0a := cA r0_0
   have r0_f0a := r0.fa
   have r0_1a := cA r0_1
   go_wp2_with fail
   clear b0_0a b0_1a r0_0a r0_f0a r0_1a
   have x1 := Bx.new 80 W2 [.slice Ai R1.length ci, .slice Aie 1 cie]
   have b0_lt_x1 := b0.lt
   have b0_ne_x1 : ¬ (w.heap.size = W2.heap.size) := by omega
   have b0_en_x1 : ¬ (W2.heap.size = w.heap.size) := by omega
   have r0_lt_x1 := r0.lt
   have r0_ne_x1 : ¬ (w.heap.size + 1 = W2.heap.size) := by omega
   have r0_en_x1 : ¬ (W2.heap.size = w.heap.size + 1) := by omega
   have nu := ((Up.refl W2).alloc (.cells #[.slice Ai R1.length ci, .slice Aie 1 cie] 80))
   revert i ie UP b0 r0; revert nu; refine lh5 ?_; intro i ie UP b0 r0
   generalize (W2.alloc (.cells #[.slice Ai R1.length ci, .slice Aie 1 cie] 80)) = W3 at *
   clear b0_0 b0_1 r0_0 r0_1
   obtain ⟨b0_0, b0_1⟩ := b0.c2
   obtain ⟨r0_0, r0_1⟩ := r0.c2
   replace r0_f0 := r0.free
   obtain ⟨x1_0, x1_1⟩ := x1.c2
   have x1_f0 := x1.free
   go_loopw [7] (fun s7 wr => ∃ (n : Nat) (A' D' : Option Addr) (n1 c1 n2 c2 : Nat), s7 = .int .i64 n ∧ n ≤ N ∧ Bx 80 wr W2.heap.size [.slice A' n1 c1, .slice D' n2 c2] ∧ GRow 3000 wr (.slice A' n1 c1) (Pq.pwl U n) ∧ GRow 3000 wr (.slice D' n2 c2) (Pq.pwl D n) ∧ Bx 80 wr w.heap.size [.slice A U.length c, .slice B D.length d] ∧ Bx 80 wr (w.heap.size + 1) [.slice none 0 0, .slice none 0 0] ∧ Up w wr) (fun s7 _ => N - (intOf s7).toNat)
   case atStart => exact ⟨0, _, _, _, _, _, _, rfl, Nat.zero_le _, x1, by rw [show Pq.pwl U 0 = R1 from HRN.out.symm]; exact i.mono (by omega), ie.mono (by omega), b0, r0, UP⟩
   case round =>
    obtain ⟨n, A', D', n1, c1, n2, c2, rfl, hn, x1, X, XE, b0, r0, UP⟩ := hrel
    obtain ⟨b0_0, b0_1⟩ := b0.c2
    obtain ⟨r0_0, r0_1⟩ := r0.c2
    have r0_f0 := r0.free
    obtain ⟨x1_0, x1_1⟩ := x1.c2
    have x1_f0 := x1.free
    by_cases hlt : n < N
    · skip
      have L1 := HLP.out n (by omega)
      have l1 := HLU.out n
      have l2 := HLD.out n
      go_wp2_with fail
      ((with_reducible refine (ref_mul15 (k := 3000) X.q XE.q (m := 5) (by omega) (by omega) (by omega) (L1.mono (show n * (48 + 1) + 3 ≤ 101 by omega)) ((HH.out.up UP).mono (by omega)) ((HH2.out.up UP).mono (by omega)) lU lD (by omega) LJ.out 7 (by omega) (by omega) (K := 2114) (DD := 19034) (Z := 154386) (by omega) (by omega) (by omega) (by omega) (by omega) (Lib.hid (HNP.out n)) HND).mono ?_))
      rintro e W51 ⟨V51, U51, psy, qsy, rfl, y, ye, cay, lpy, ley, u51⟩
      obtain ⟨Ay, cy, rfl⟩ := y.form
      obtain ⟨Aye, cye, rfl⟩ := ye.form
      clear x1_0 x1_1; revert x1 X XE b0 r0 UP b0_0 b0_1 r0_0 r0_1; refine lg10 u51 ?_; intro x1 X XE b0 r0 UP b0_0 b0_1 r0_0 r0_1
      replace r0_f0 := r0.free
      obtain ⟨x1_0, x1_1⟩ := x1.c2
      replace x1_f0 := x1.free
      clear u51
      have HE := Lib.hid (HSTEP.out n _ _ cay.out)
      clear L1 l1 l2
      clear X XE
      go_wp2_with fail
      have KW : Kw (W51) ((W51).setCell ⟨W2.heap.size, 0, none⟩ (.slice Ay psy.length cy)) := Kw.store (c := (.slice A' n1 c1)) x1 rfl trivial _
      replace y := y.stored x1 (by decide) KW
      replace ye := ye.stored x1 (by decide) KW
      replace b0 := b0.fr (W2.heap.size) 0 (.slice Ay psy.length cy)
      replace r0 := r0.fr (W2.heap.size) 0 (.slice Ay psy.length cy)
      replace x1 : Bx 80 ((W51).setCell ⟨W2.heap.size, 0, none⟩ (.slice Ay psy.length cy)) (W2.heap.size) [.slice Ay psy.length cy, .slice D' n2 c2] := x1.set 0 (.slice Ay psy.length cy)
      replace UP := UP.setCell (p := ⟨W2.heap.size, 0, none⟩) (by dsimp only; omega) (.slice Ay psy.length cy)
      have KW : Kw (((W51).setCell ⟨W2.heap.size, 0, none⟩ (.slice Ay psy.length cy))) ((((W51).setCell ⟨W2.heap.size, 0, none⟩ (.slice Ay psy.length cy))).setCell ⟨W2.heap.size, 1, none⟩ (.slice Aye qsy.length cye)) := Kw.store (c := (.slice D' n2 c2)) x1 rfl trivial _
      replace y := y.stored x1 (by decide) KW
      replace ye := ye.stored x1 (by decide) KW
      replace b0 := b0.fr (W2.heap.size) 1 (.slice Aye qsy.length cye)
      replace r0 := r0.fr (W2.heap.size) 1 (.slice Aye qsy.length cye)
      replace x1 : Bx 80 ((((W51).setCell ⟨W2.heap.size, 0, none⟩ (.slice Ay psy.length cy))).setCell ⟨W2.heap.size, 1, none⟩ (.slice Aye qsy.length cye)) (W2.heap.size) [.slice Ay psy.length cy, .slice Aye qsy.length cye] := x1.set 1 (.slice Aye qsy.length cye)
      replace UP := UP.setCell (p := ⟨W2.heap.size, 1, none⟩) (by dsimp only; omega) (.slice Aye qsy.length cye)
      clear KW
      generalize ((((W51).setCell ⟨W2.heap.size, 0, none⟩ (.slice Ay psy.length cy))).setCell ⟨W2.heap.size, 1, none⟩ (.slice Aye qsy.length cye)) = W52 at *
      clear b0_0 b0_1 r0_0 r0_1 x1_0 x1_1
      obtain ⟨b0_0, b0_1⟩ := b0.c2
      obtain ⟨r0_0, r0_1⟩ := r0.c2
      replace r0_f0 := r0.free
      obtain ⟨x1_0, x1_1⟩ := x1.c2
      go_roundw
      case rel => exact ⟨n + 1, _, _, _, _, _, _, by go_num, by omega, x1, by rw [← HE.out.1]; exact y.mono (by omega), by rw [← HE.out.2]; exact ye.mono (by omega), b0, r0, UP⟩
      case measure => simp [intOf]; omega
    · obtain rfl : n = N := by omega
      go_wp2_with fail
      refine wp_loop_rounds 1 ?_
      rw [rounds_succ]
      go_wp2_with fail
      have KW : Kw (wr) ((wr).setCell ⟨w.heap.size + 1, 0, none⟩ (.slice A' n1 c1)) := Kw.store (c := (.slice none 0 0)) r0 rfl trivial _
      replace X := X.stored r0 (by decide) KW
      replace XE := XE.stored r0 (by decide) KW
      replace b0 := b0.fr (w.heap.size + 1) 0 (.slice A' n1 c1)
      replace x1 := x1.fr (w.heap.size + 1) 0 (.slice A' n1 c1)
      replace r0 : Bx 80 ((wr).setCell ⟨w.heap.size + 1, 0, none⟩ (.slice A' n1 c1)) (w.heap.size + 1) [.slice A' n1 c1, .slice none 0 0] := r0.set 0 (.slice A' n1 c1)
      replace UP := UP.setCell (p := ⟨w.heap.size + 1, 0, none⟩) (by dsimp only; omega) (.slice A' n1 c1)
      have KW : Kw (((wr).setCell ⟨w.heap.size + 1, 0, none⟩ (.slice A' n1 c1))) ((((wr).setCell ⟨w.heap.size + 1, 0, none⟩ (.slice A' n1 c1))).setCell ⟨w.heap.size + 1, 1, none⟩ (.slice D' n2 c2)) := Kw.store (c := (.slice none 0 0)) r0 rfl trivial _
      replace X := X.stored r0 (by decide) KW
      replace XE := XE.stored r0 (by decide) KW
      replace b0 := b0.fr (w.heap.size + 1) 1 (.slice D' n2 c2)
      replace x1 := x1.fr (w.heap.size + 1) 1 (.slice D' n2 c2)
      replace r0 : Bx 80 ((((wr).setCell ⟨w.heap.size + 1, 0, none⟩ (.slice A' n1 c1))).setCell ⟨w.heap.size + 1, 1, none⟩ (.slice D' n2 c2)) (w.heap.size + 1) [.slice A' n1 c1, .slice D' n2 c2] := r0.set 1 (.slice D' n2 c2)
      replace UP := UP.setCell (p := ⟨w.heap.size + 1, 1, none⟩) (by dsimp only; omega) (.slice D' n2 c2)
      clear KW
      generalize ((((wr).setCell ⟨w.heap.size + 1, 0, none⟩ (.slice A' n1 c1))).setCell ⟨w.heap.size + 1, 1, none⟩ (.slice D' n2 c2)) = W51 at *
      clear b0_0 b0_1 r0_0 r0_1 x1_0 x1_1
      obtain ⟨b0_0, b0_1⟩ := b0.c2
      obtain ⟨r0_0, r0_1⟩ := r0.c2
      obtain ⟨x1_0, x1_1⟩ := x1.c2
      replace x1_f0 := x1.free
      exact bodyPost_ret (run_res_cell_tmp rfl rfl agg_rfun size_rfun r0 rfl) rfl ⟨_, _, by rw [HR.out.2.2]; rfl, by rw [HR.out.1]; exact X, by rw [HR.out.2.1]; exact XE, UP⟩
end Go.Proofs.YtmmcffceeahemaaGreat
