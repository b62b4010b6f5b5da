/-
  Layer 9, the document's answers: rounded down.
-/
import Derived.Test.YtmmcffceeahemaaGreatZsRefFrac7
set_option linter.unusedVariables false
set_option linter.unusedSimpArgs false
namespace Go.Proofs.YtmmcffceeahemaaGreat
open Go.RowKit
theorem ref9_up (s : Bool) (A D : Option Addr) (n c m d : Nat) (w : World) :
 Calls Tryz.prog 158 #[.agg #[.bool s, .slice A n c, .slice D m d]] w fun e w' => e = .returned (.agg #[.bool s, .slice A n c]) ∧ Up w w' := by
 have UP : Up w ((w.alloc (.cells #[.bool s, .slice A n c, .slice D m d] 24)).alloc (.cells #[.bool s, .slice A n c] 134)) := ((Up.refl w).alloc _).alloc _
 obtain ⟨b0, r0⟩ := bx_two 24 134 w [.bool s, .slice A n c, .slice D m d] [.bool s, .slice A n c]
 go_enter Tryz.func158, Tryz.ntmps158
 go_wp2
 exact bodyPost_ret (run_res_cell rfl rfl agg_rwhole size_rwhole r0 rfl) rfl ⟨rfl, UP⟩
set_option maxRecDepth 100000 in
set_option maxHeartbeats 25600000 in
theorem ref9_floor {v : Value} {q : Rat} {k : Nat} {w : World} (h : Qw w v q) (lq : Wd.Lq q k) (hk : k ≤ 10000000) : Calls Tryz.prog 122 #[v] w (RetZ q.floor w) := by
 have j1 : (Wd.words q.num.natAbs).length ≤ k := lq.1
 have j2 : (Wd.words q.den).length ≤ k := lq.2
 have HF : Hid (Wd.iv (Wd.ngb q.num) (Wd.val (Wd.words q.num.natAbs)) / Wd.iv false (Wd.val (Wd.words q.den)) = q.floor) := Lib.hid (by
  rw [Wd.val_words, Wd.val_words, Wd.iv_ngb, Wd.iv_false, Rat.floor_def])
 have HD : 0 < Wd.iv false (Wd.val (Wd.words q.den)) := by rw [Wd.val_words, Wd.iv_false]; have := q.den_pos; omega
 have HDD := Lib.hid HD
 obtain ⟨v1, v2, rfl, hl, hm⟩ := h
 obtain ⟨A, n, c, rfl⟩ := hl.shape
 obtain ⟨D, m, d, rfl⟩ := hm.shape
 generalize hs : Wd.ngb q.num = s at *
 clear hs lq HD
 obtain ⟨F, HFF⟩ : ∃ F, Hid (q.floor = F) := ⟨_, Lib.hid rfl⟩
 rw [HFF.out]
 rw [HFF.out] at HF
 have UP : Up w ((w.alloc (.cells #[.bool s, .slice A n c, .slice D m d] 24)).alloc (.cells #[.bool false, .slice none 0 0] 134)) := ((Up.refl w).alloc _).alloc _
 obtain ⟨b0, r0⟩ := bx_two 24 134 w [.bool s, .slice A n c, .slice D m d] [.bool false, .slice none 0 0]
 go_enter Tryz.func122, Tryz.ntmps122
 go_wp2_with fail
 generalize ((w.alloc (.cells #[.bool s, .slice A n c, .slice D m d] 24)).alloc (.cells #[.bool false, .slice none 0 0] 134)) = W at *
 replace hl := hl.up UP
 replace hm := hm.up UP
 obtain ⟨b0_0, b0_1, b0_2⟩ := b0.c3
 obtain ⟨r0_0, r0_1⟩ := r0.c2
 have r0_f0 := r0.free 0
 have r0_f1 := r0.free 1
 replace hl := hl.up (Up.refl W).drew
 replace hm := hm.up (Up.refl W).drew
 replace b0 := b0.up (Up.refl W).drew
 replace r0 := r0.up (Up.refl W).drew
 replace UP := UP.trans (Up.refl W).drew
 clear b0_0 b0_1 b0_2 r0_0 r0_1
 obtain ⟨b0_0, b0_1, b0_2⟩ := b0.c3
 obtain ⟨r0_0, r0_1⟩ := r0.c2
 replace r0_f0 := r0.free 0
 replace r0_f1 := r0.free 1
 refine wp_region_noPanic ?_
 refine wp_region_held_drew (S := fun w' => Up w w' ∧ w'.cell? ⟨w.heap.size, 0, none⟩ = some (.bool s) ∧ w'.cell? ⟨w.heap.size, 1, none⟩ = some (.slice A n c) ∧ w'.cell? ⟨w.heap.size, 2, none⟩ = some (.slice D m d)) (by kernel_rfl) (by exact ⟨UP, b0_0, b0_1, b0_2⟩) (fun hHeld => ?_)
 clear hHeld
 generalize W.drew = WC at *
 have hHeld : Up w WC ∧ WC.cell? ⟨w.heap.size, 0, none⟩ = some (.bool s) ∧ WC.cell? ⟨w.heap.size, 1, none⟩ = some (.slice A n c) ∧ WC.cell? ⟨w.heap.size, 2, none⟩ = some (.slice D m d) := by exact ⟨UP, b0_0, b0_1, b0_2⟩
 refine wpAnyH_take (i := 0) (v := ?_) rfl (by kernel_rfl) (by decide +kernel) (by decide +kernel) (fun _ _ _ h => h) (Or.inl ⟨by rfl, ?_⟩) (by assumption) ?_
 rotate_left
 · (intro w hSw; (try dsimp only at hSw); go_simp; first | done | with_reducible rfl)
 try simp only [List.getElem_toArray, List.getElem_cons_zero, List.getElem_cons_succ, Act.put, List.setIfInBounds_toArray, List.set_cons_zero, List.set_cons_succ]
 refine wpAnyH_take (i := 2) (v := ?_) rfl (by kernel_rfl) (by decide +kernel) (by decide +kernel) (fun _ _ _ h => h) (Or.inl ⟨by rfl, ?_⟩) (by assumption) ?_
 rotate_left
 · (intro w hSw; (try dsimp only at hSw); go_simp; first | done | with_reducible rfl)
 try simp only [List.getElem_toArray, List.getElem_cons_zero, List.getElem_cons_succ, Act.put, List.setIfInBounds_toArray, List.set_cons_zero, List.set_cons_succ]
 refine wpAnyH_take (i := 3) (v := ?_) rfl (by kernel_rfl) (by decide +kernel) (by decide +kernel) (fun _ _ _ h => h) (Or.inl ⟨by rfl, ?_⟩) (by assumption) ?_
 rotate_left
 · (intro w hSw; (try dsimp only at hSw); go_simp; first | done | with_reducible rfl)
 try simp only [List.getElem_toArray, List.getElem_cons_zero, List.getElem_cons_succ, Act.put, List.setIfInBounds_toArray, List.set_cons_zero, List.set_cons_succ]
 repeat' first
  | (refine wpAnyH_take (i := 4) (v := ?_) rfl (by kernel_rfl) (by decide +kernel) (by decide +kernel) (fun _ _ _ h => h) (Or.inl ⟨by rfl, ?_⟩) (by assumption) ?_
     rotate_left
     · (intro w hSw; (try dsimp only at hSw); go_simp; first | done | with_reducible rfl)
     try simp only [List.getElem_toArray, List.getElem_cons_zero, List.getElem_cons_succ, Act.put, List.setIfInBounds_toArray, List.set_cons_zero, List.set_cons_succ])
  | (refine wpAnyH_take (i := 6) (v := ?_) rfl (by kernel_rfl) (by decide +kernel) (by decide +kernel) (fun _ _ _ h => h) (Or.inl ⟨by rfl, ?_⟩) (by assumption) ?_
     rotate_left
     · (intro w hSw; (try dsimp only at hSw); go_simp; first | done | with_reducible rfl)
     try simp only [List.getElem_toArray, List.getElem_cons_zero, List.getElem_cons_succ, Act.put, List.setIfInBounds_toArray, List.set_cons_zero, List.set_cons_succ])
  | (refine wpAnyH_take (i := 7) (v := ?_) rfl (by kernel_rfl) (by decide +kernel) (by decide +kernel) (fun _ _ _ h => h) (Or.inl ⟨by rfl, ?_⟩) (by assumption) ?_
     rotate_left
     · (intro w hSw; (try dsimp only at hSw); go_simp; first | done | with_reducible rfl)
     try simp only [List.getElem_toArray, List.getElem_cons_zero, List.getElem_cons_succ, Act.put, List.setIfInBounds_toArray, List.set_cons_zero, List.set_cons_succ])
  | (refine wpAnyH_take (i := 8) (v := ?_) rfl (by kernel_rfl) (by decide +kernel) (by decide +kernel) (fun _ _ _ h => h) (Or.inl ⟨by rfl, ?_⟩) (by assumption) ?_
     rotate_left
     · (intro w hSw; (try dsimp only at hSw); go_simp; first | done | with_reducible rfl)
     try simp only [List.getElem_toArray, List.getElem_cons_zero, List.getElem_cons_succ, Act.put, List.setIfInBounds_toArray, List.set_cons_zero, List.set_cons_succ])
  | refine wpAnyH_ready (rs := [1, 9, 10]) (by decide +kernel) (by simp) ?_
  | refine wpAnyH_ready (rs := [1, 9]) (by decide +kernel) (by simp) ?_
  | refine wpAnyH_ready (rs := [1, 10]) (by decide +kernel) (by simp) ?_
  | refine wpAnyH_ready (rs := [1]) (by decide +kernel) (by simp) ?_
  | refine wpAnyH_ready (rs := [5, 9, 10]) (by decide +kernel) (by simp) ?_
  | refine wpAnyH_ready (rs := [5, 9]) (by decide +kernel) (by simp) ?_
  | refine wpAnyH_ready (rs := [5, 10]) (by decide +kernel) (by simp) ?_
  | refine wpAnyH_ready (rs := [5]) (by decide +kernel) (by simp) ?_
  | refine wpAnyH_ready (rs := [9, 10]) (by decide +kernel) (by simp) ?_
  | refine wpAnyH_ready (rs := [9]) (by decide +kernel) (by simp) ?_
  | refine wpAnyH_ready (rs := [10]) (by decide +kernel) (by simp) ?_
  | refine wpAnyH_ready (rs := [11]) (by decide +kernel) (by simp) ?_
  | refine wpAnyH_ready (rs := [12]) (by decide +kernel) (by simp) ?_
  | refine AllReadyH.cons (i := 1) rfl (fun K hK1 => ?_) ?_
  | refine AllReadyH.cons (i := 5) rfl (fun K hK5 => ?_) ?_
  | refine AllReadyH.cons (i := 9) rfl (fun K hK9 => ?_) ?_
  | refine AllReadyH.cons (i := 10) rfl (fun K hK10 => ?_) ?_
  | refine AllReadyH.cons (i := 11) rfl (fun K hK11 => ?_) ?_
  | refine AllReadyH.cons (i := 12) rfl (fun K hK12 => ?_) ?_
  | exact AllReadyH.nil
  | (have hK := hK1
     clear hK1
     (try clear hHeld)
     go_simp
     go_at_call 158
     ((with_reducible refine (ref9_up _ _ _ _ _ _ _ _).mono ?_))
     rintro e WD ⟨rfl, uu⟩
     replace hl := hl.up uu
     replace hm := hm.up uu
     try (replace a := a.up uu)
     try (replace b := b.up uu)
     replace b0 := b0.up uu
     replace r0 := r0.up uu
     try (replace x1 := x1.up uu)
     try (replace x2 := x2.up uu)
     replace UP := UP.trans uu
     clear uu
     obtain ⟨WC, hWC⟩ : ∃ W, W = WD := ⟨_, rfl⟩
     subst hWC
     clear b0_0 b0_1 b0_2
     obtain ⟨b0_0, b0_1, b0_2⟩ := b0.c3
     replace r0_f0 := r0.free 0
     replace r0_f1 := r0.free 1
     clear r0_0 r0_1
     obtain ⟨r0_0, r0_1⟩ := r0.c2
     try go_wp2_with fail
     refine hK.out _ _ (by exact ⟨UP, b0_0, b0_1, b0_2⟩) (fun hHeld => ?_)
     clear hK K
     try simp only [List.getElem_toArray, List.getElem_cons_zero, List.getElem_cons_succ, Act.put, List.setIfInBounds_toArray, List.set_cons_zero, List.set_cons_succ])
  | (have hK := hK5
     clear hK5
     (try clear hHeld)
     go_simp
     go_at_call 157
     ((with_reducible refine (ref8_floor (Wh.mk s hl (k := 10000000) (by omega)) (Wh.mk false hm (k := 10000000) (by omega)) (by omega) (by omega) HDD.out).mono ?_))
     rintro e WD ⟨V5, V5', yb, rfl, a, b, uu⟩
     replace hl := hl.up uu
     replace hm := hm.up uu
     replace b0 := b0.up uu
     replace r0 := r0.up uu
     try (replace x1 := x1.up uu)
     try (replace x2 := x2.up uu)
     replace UP := UP.trans uu
     clear uu
     obtain ⟨WC, hWC⟩ : ∃ W, W = WD := ⟨_, rfl⟩
     subst hWC
     clear b0_0 b0_1 b0_2
     obtain ⟨b0_0, b0_1, b0_2⟩ := b0.c3
     replace r0_f0 := r0.free 0
     replace r0_f1 := r0.free 1
     clear r0_0 r0_1
     obtain ⟨r0_0, r0_1⟩ := r0.c2
     rw [HF.out] at a
     obtain ⟨Xa, rfl, a⟩ := a
     obtain ⟨Aa, na, ca, rfl⟩ := a.shape
     obtain ⟨Xb, rfl, b⟩ := b
     obtain ⟨Ab, nb, cb, rfl⟩ := b.shape
     try go_wp2_with fail
     refine hK.out _ _ (by exact ⟨UP, b0_0, b0_1, b0_2⟩) (fun hHeld => ?_)
     clear hK K
     try simp only [List.getElem_toArray, List.getElem_cons_zero, List.getElem_cons_succ, Act.put, List.setIfInBounds_toArray, List.set_cons_zero, List.set_cons_succ])
  | (have hK := hK9
     clear hK9
     (try clear hHeld)
     go_simp
     have x1 := Bx.new 134 WC [.bool false, .slice none 0 0]
     have b0_lt_x1 := b0.lt
     have r0_lt_x1 := r0.lt
     have x1_base := UP.size
     try (have x2_lt_x1 := x2.lt)
     have nu := ((Up.refl WC).alloc (.cells #[.bool false, .slice none 0 0] 134))
     replace hl := hl.up nu
     replace hm := hm.up nu
     try (replace a := a.up nu)
     try (replace b := b.up nu)
     replace b0 := b0.up nu
     replace r0 := r0.up nu
     try (replace x2 := x2.up nu)
     replace UP := UP.trans nu
     clear nu
     generalize WC.alloc (.cells #[.bool false, .slice none 0 0] 134) = WD at *
     generalize WC.heap.size = gx1 at *
     obtain ⟨WC, hWC⟩ : ∃ W, W = WD := ⟨_, rfl⟩
     subst hWC
     clear b0_0 b0_1 b0_2
     obtain ⟨b0_0, b0_1, b0_2⟩ := b0.c3
     replace r0_f0 := r0.free 0
     replace r0_f1 := r0.free 1
     clear r0_0 r0_1
     obtain ⟨r0_0, r0_1⟩ := r0.c2
     refine hK.out _ _ (by exact ⟨UP, b0_0, b0_1, b0_2⟩) (fun hHeld => ?_)
     clear hK K
     try simp only [List.getElem_toArray, List.getElem_cons_zero, List.getElem_cons_succ, Act.put, List.setIfInBounds_toArray, List.set_cons_zero, List.set_cons_succ])
  | (have hK := hK10
     clear hK10
     (try clear hHeld)
     go_simp
     have x2 := Bx.new 134 WC [.bool false, .slice none 0 0]
     have b0_lt_x2 := b0.lt
     have r0_lt_x2 := r0.lt
     have x2_base := UP.size
     try (have x1_lt_x2 := x1.lt)
     have nu := ((Up.refl WC).alloc (.cells #[.bool false, .slice none 0 0] 134))
     replace hl := hl.up nu
     replace hm := hm.up nu
     try (replace a := a.up nu)
     try (replace b := b.up nu)
     replace b0 := b0.up nu
     replace r0 := r0.up nu
     try (replace x1 := x1.up nu)
     replace UP := UP.trans nu
     clear nu
     generalize WC.alloc (.cells #[.bool false, .slice none 0 0] 134) = WD at *
     generalize WC.heap.size = gx2 at *
     obtain ⟨WC, hWC⟩ : ∃ W, W = WD := ⟨_, rfl⟩
     subst hWC
     clear b0_0 b0_1 b0_2
     obtain ⟨b0_0, b0_1, b0_2⟩ := b0.c3
     replace r0_f0 := r0.free 0
     replace r0_f1 := r0.free 1
     clear r0_0 r0_1
     obtain ⟨r0_0, r0_1⟩ := r0.c2
     refine hK.out _ _ (by exact ⟨UP, b0_0, b0_1, b0_2⟩) (fun hHeld => ?_)
     clear hK K
     try simp only [List.getElem_toArray, List.getElem_cons_zero, List.getElem_cons_succ, Act.put, List.setIfInBounds_toArray, List.set_cons_zero, List.set_cons_succ])
  | (have hK := hK11
     clear hK11
     (try clear hHeld)
     obtain ⟨ce0, ce1⟩ := x1.c2
     have fr0 := x1.free 0
     have fr1 := x1.free 1
     go_simp
     clear ce0 ce1 fr0 fr1
     have KW : Kw (WC) ((WC).setCell ⟨gx1, 0, none⟩ (.bool (Wd.ngb F))) := Kw.store (c := (.bool false)) x1 rfl trivial _
     replace hl := hl.kw KW
     replace hm := hm.kw KW
     try (replace a := a.kw KW)
     try (replace b := b.kw KW)
     replace b0 := b0.far (p := ⟨gx1, 0, none⟩) (by dsimp only; omega) (.bool (Wd.ngb F))
     replace r0 := r0.far (p := ⟨gx1, 0, none⟩) (by dsimp only; omega) (.bool (Wd.ngb F))
     replace x2 := x2.far (p := ⟨gx1, 0, none⟩) (by dsimp only; first | omega | (have := x2_lt_x1; omega) | (have := x1_lt_x2; omega)) (.bool (Wd.ngb F))
     replace x1 : Bx 134 ((WC).setCell ⟨gx1, 0, none⟩ (.bool (Wd.ngb F))) (gx1) [.bool (Wd.ngb F), .slice none 0 0] := x1.set 0 (.bool (Wd.ngb F))
     replace UP := UP.setCell (p := ⟨gx1, 0, none⟩) (by dsimp only; omega) (.bool (Wd.ngb F))
     have KW : Kw (((WC).setCell ⟨gx1, 0, none⟩ (.bool (Wd.ngb F)))) ((((WC).setCell ⟨gx1, 0, none⟩ (.bool (Wd.ngb F)))).setCell ⟨gx1, 1, none⟩ (.slice Aa na ca)) := Kw.store (c := (.slice none 0 0)) x1 rfl trivial _
     replace hl := hl.kw KW
     replace hm := hm.kw KW
     try (replace a := a.kw KW)
     try (replace b := b.kw KW)
     replace b0 := b0.far (p := ⟨gx1, 1, none⟩) (by dsimp only; omega) (.slice Aa na ca)
     replace r0 := r0.far (p := ⟨gx1, 1, none⟩) (by dsimp only; omega) (.slice Aa na ca)
     replace x2 := x2.far (p := ⟨gx1, 1, none⟩) (by dsimp only; first | omega | (have := x2_lt_x1; omega) | (have := x1_lt_x2; omega)) (.slice Aa na ca)
     replace x1 : Bx 134 ((((WC).setCell ⟨gx1, 0, none⟩ (.bool (Wd.ngb F)))).setCell ⟨gx1, 1, none⟩ (.slice Aa na ca)) (gx1) [.bool (Wd.ngb F), .slice Aa na ca] := x1.set 1 (.slice Aa na ca)
     replace UP := UP.setCell (p := ⟨gx1, 1, none⟩) (by dsimp only; omega) (.slice Aa na ca)
     clear KW
     generalize ((((WC).setCell ⟨gx1, 0, none⟩ (.bool (Wd.ngb F)))).setCell ⟨gx1, 1, none⟩ (.slice Aa na ca)) = WD at *
     obtain ⟨WC, hWC⟩ : ∃ W, W = WD := ⟨_, rfl⟩
     subst hWC
     clear b0_0 b0_1 b0_2
     obtain ⟨b0_0, b0_1, b0_2⟩ := b0.c3
     replace r0_f0 := r0.free 0
     replace r0_f1 := r0.free 1
     clear r0_0 r0_1
     obtain ⟨r0_0, r0_1⟩ := r0.c2
     refine hK.out _ _ (by exact ⟨UP, b0_0, b0_1, b0_2⟩) (fun hHeld => ?_)
     clear hK K
     try simp only [List.getElem_toArray, List.getElem_cons_zero, List.getElem_cons_succ, Act.put, List.setIfInBounds_toArray, List.set_cons_zero, List.set_cons_succ])
  | (have hK := hK12
     clear hK12
     (try clear hHeld)
     obtain ⟨ce0, ce1⟩ := x2.c2
     have fr0 := x2.free 0
     have fr1 := x2.free 1
     go_simp
     clear ce0 ce1 fr0 fr1
     have KW : Kw (WC) ((WC).setCell ⟨gx2, 0, none⟩ (.bool (Wd.ngb yb))) := Kw.store (c := (.bool false)) x2 rfl trivial _
     replace hl := hl.kw KW
     replace hm := hm.kw KW
     try (replace a := a.kw KW)
     try (replace b := b.kw KW)
     replace b0 := b0.far (p := ⟨gx2, 0, none⟩) (by dsimp only; omega) (.bool (Wd.ngb yb))
     replace r0 := r0.far (p := ⟨gx2, 0, none⟩) (by dsimp only; omega) (.bool (Wd.ngb yb))
     replace x1 := x1.far (p := ⟨gx2, 0, none⟩) (by dsimp only; first | omega | (have := x1_lt_x2; omega) | (have := x2_lt_x1; omega)) (.bool (Wd.ngb yb))
     replace x2 : Bx 134 ((WC).setCell ⟨gx2, 0, none⟩ (.bool (Wd.ngb yb))) (gx2) [.bool (Wd.ngb yb), .slice none 0 0] := x2.set 0 (.bool (Wd.ngb yb))
     replace UP := UP.setCell (p := ⟨gx2, 0, none⟩) (by dsimp only; omega) (.bool (Wd.ngb yb))
     have KW : Kw (((WC).setCell ⟨gx2, 0, none⟩ (.bool (Wd.ngb yb)))) ((((WC).setCell ⟨gx2, 0, none⟩ (.bool (Wd.ngb yb)))).setCell ⟨gx2, 1, none⟩ (.slice Ab nb cb)) := Kw.store (c := (.slice none 0 0)) x2 rfl trivial _
     replace hl := hl.kw KW
     replace hm := hm.kw KW
     try (replace a := a.kw KW)
     try (replace b := b.kw KW)
     replace b0 := b0.far (p := ⟨gx2, 1, none⟩) (by dsimp only; omega) (.slice Ab nb cb)
     replace r0 := r0.far (p := ⟨gx2, 1, none⟩) (by dsimp only; omega) (.slice Ab nb cb)
     replace x1 := x1.far (p := ⟨gx2, 1, none⟩) (by dsimp only; first | omega | (have := x1_lt_x2; omega) | (have := x2_lt_x1; omega)) (.slice Ab nb cb)
     replace x2 : Bx 134 ((((WC).setCell ⟨gx2, 0, none⟩ (.bool (Wd.ngb yb)))).setCell ⟨gx2, 1, none⟩ (.slice Ab nb cb)) (gx2) [.bool (Wd.ngb yb), .slice Ab nb cb] := x2.set 1 (.slice Ab nb cb)
     replace UP := UP.setCell (p := ⟨gx2, 1, none⟩) (by dsimp only; omega) (.slice Ab nb cb)
     clear KW
     generalize ((((WC).setCell ⟨gx2, 0, none⟩ (.bool (Wd.ngb yb)))).setCell ⟨gx2, 1, none⟩ (.slice Ab nb cb)) = WD at *
     obtain ⟨WC, hWC⟩ : ∃ W, W = WD := ⟨_, rfl⟩
     subst hWC
     clear b0_0 b0_1 b0_2
     obtain ⟨b0_0, b0_1, b0_2⟩ := b0.c3
     replace r0_f0 := r0.free 0
     replace r0_f1 := r0.free 1
     clear r0_0 r0_1
     obtain ⟨r0_0, r0_1⟩ := r0.c2
     refine hK.out _ _ (by exact ⟨UP, b0_0, b0_1, b0_2⟩) (fun hHeld => ?_)
     clear hK K
     try simp only [List.getElem_toArray, List.getElem_cons_zero, List.getElem_cons_succ, Act.put, List.setIfInBounds_toArray, List.set_cons_zero, List.set_cons_succ])
  | refine wpAnyH_done (by decide +kernel) (NoPanic.normal ?_) _
  | fail
 all_goals try clear hHeld
 all_goals obtain ⟨x1_0, x1_1⟩ := x1.c2
 all_goals obtain ⟨x2_0, x2_1⟩ := x2.c2
 all_goals
  go_wp2
  exact end_rz rfl rfl rfl ⟨_, rfl, a⟩ r0 trivial trivial UP (by omega)
end Go.Proofs.YtmmcffceeahemaaGreat
