/-
  Layer 36: the factor behind an error.
-/
import Derived.Test.YtmmcffceeahemaaGreatZsPace3
import Derived.Test.YtmmcffceeahemaaGreatZsFloorMath
import Derived.Deep.DeepCutAuto
set_option linter.unusedVariables false
set_option linter.unusedSimpArgs false
namespace Go.Proofs.YtmmcffceeahemaaGreat
open Go.RowKit
theorem zw_of {w : World} {u : Value} {z : Int} (h : Ws w u (Wd.words z.natAbs)) : Zw w (.agg #[.bool (Wd.ngb z), u]) z := ⟨u, rfl, h⟩
theorem field_abs (w : World) (s : Bool) (A : Option Addr) (n c : Nat) : (Instr.field 32 (.agg #[.bool s, .slice A n c]) 1).run Tryz.prog w = .ok (.slice A n c) w := by kernel_rfl
set_option maxRecDepth 100000 in
set_option maxHeartbeats 6400000 in
theorem pace_down {v : Value} {x : Rat} {k : Nat} {fi : Int} {w : World} (h : Fr w v x k) (hk : k ≤ 10000) (h1 : 1 ≤ fi) (h2 : fi ≤ 1024) : Calls Tryz.prog 124 #[v, .int .i64 fi] w (RetQ (Pc.down x fi) w) := by
 obtain ⟨x0, rfl, ⟨A1, n1, c1, e1⟩, ⟨D1, p1, d1, e2⟩⟩ := (kp_fr k).form h
 obtain ⟨s1, u0, d0⟩ := x0
 simp only at e1 e2
 subst e1 e2
 have FX : Fr w (.agg #[.bool s1, .slice A1 n1 c1, .slice D1 p1 d1]) x k := h
 clear h
 have LFI : Wd.Lq (fi : Rat) 2 := lq_int (by omega)
 obtain ⟨y, HY⟩ : ∃ y, Hid ((fi : Rat) = y) := ⟨_, Lib.hid rfl⟩
 rw [HY.out] at LFI
 have LM := FX.lq.mul LFI
 obtain ⟨m, HM⟩ : ∃ m, Hid (x * y = m) := ⟨_, Lib.hid rfl⟩
 rw [HM.out] at LM
 have LF := Wd.Lq.floor LM
 obtain ⟨F, HF⟩ : ∃ F, Hid (m.floor = F) := ⟨_, Lib.hid rfl⟩
 rw [HF.out] at LF
 have LFI2 : (Wd.words fi.natAbs).length ≤ 2 := (lq_int (n := fi) (by omega)).1
 have HV : Hid (mkRat F (Wd.val (Wd.words fi.natAbs)) = Pc.down x fi) := Lib.hid (by rw [Wd.val_words, ← HF.out, ← HM.out, ← HY.out]; rfl)
 obtain ⟨R, HR⟩ : ∃ R, Hid (Pc.down x fi = R) := ⟨_, Lib.hid rfl⟩
 rw [HR.out] at HV ⊢
 have hfield := field_abs
 have UP : Up w ((w.alloc (.cells #[.bool s1, .slice A1 n1 c1, .slice D1 p1 d1] 34)).alloc (.cells #[.bool false, .slice none 0 0, .slice none 0 0] 34)) := ((Up.refl w).alloc _).alloc _
 obtain ⟨b1, r0⟩ := bx_two 34 34 w [.bool s1, .slice A1 n1 c1, .slice D1 p1 d1] [.bool false, .slice none 0 0, .slice none 0 0]
 show Calls Tryz.prog 124 #[.agg #[.bool s1, .slice A1 n1 c1, .slice D1 p1 d1], .int .i64 fi] w _
 go_enter Tryz.func124, Tryz.ntmps124
 go_upto_region 1 with fail
 generalize ((w.alloc (.cells #[.bool s1, .slice A1 n1 c1, .slice D1 p1 d1] 34)).alloc (.cells #[.bool false, .slice none 0 0, .slice none 0 0] 34)) = W at *
 replace FX := FX.up UP
 obtain ⟨b1_0, b1_1, b1_2⟩ := b1.c3
 obtain ⟨r0_0, r0_1, r0_2⟩ := r0.c3
 have r0_f0 := r0.free 0
 have r0_f1 := r0.free 1
 have r0_f2 := r0.free 2
 go_cut [5] (fun s5 wx => ∃ (g : Nat) (Af : Option Addr) (nf cf : Nat), s5 = .pointer (some ⟨g, 0, none⟩) ∧ Bx 32 wx g [.bool (Wd.ngb F), .slice Af nf cf] ∧ Ws wx (.slice Af nf cf) (Wd.words F.natAbs) ∧ Bx 34 wx (w.heap.size + 1) [.bool false, .slice none 0 0, .slice none 0 0] ∧ Up w wx)
 case first =>
  replace FX := FX.up (Up.refl W).drew
  replace b1 := b1.up (Up.refl W).drew
  replace r0 := r0.up (Up.refl W).drew
  replace UP := UP.trans (Up.refl W).drew
  clear b1_0 b1_1 b1_2 r0_0 r0_1 r0_2
  obtain ⟨b1_0, b1_1, b1_2⟩ := b1.c3
  obtain ⟨r0_0, r0_1, r0_2⟩ := r0.c3
  replace r0_f0 := r0.free 0
  replace r0_f1 := r0.free 1
  replace r0_f2 := r0.free 2
  refine wp_region_noPanic ?_
  refine wp_region_held_drew (S := fun w' => Up w w' ∧ w'.cell? ⟨w.heap.size, 0, none⟩ = some (.bool s1) ∧ w'.cell? ⟨w.heap.size, 1, none⟩ = some (.slice A1 n1 c1) ∧ w'.cell? ⟨w.heap.size, 2, none⟩ = some (.slice D1 p1 d1)) (by kernel_rfl) (by exact ⟨UP, b1_0, b1_1, b1_2⟩) (fun hHeld => ?_)
  clear hHeld
  generalize W.drew = WC at *
  have hHeld : Up w WC ∧ WC.cell? ⟨w.heap.size, 0, none⟩ = some (.bool s1) ∧ WC.cell? ⟨w.heap.size, 1, none⟩ = some (.slice A1 n1 c1) ∧ WC.cell? ⟨w.heap.size, 2, none⟩ = some (.slice D1 p1 d1) := by exact ⟨UP, b1_0, b1_1, b1_2⟩
  refine wpAnyH_take (i := 0) (v := ?_) rfl (by kernel_rfl) (by decide +kernel) (by decide +kernel) (fun _ _ _ h => h) (Or.inl ⟨by rfl, ?_⟩) (by assumption) ?_
  rotate_left
  · (intro w hSw; (try dsimp only at hSw); go_simp; first | done | with_reducible rfl)
  try simp only [List.getElem_toArray, List.getElem_cons_zero, List.getElem_cons_succ, Act.put, List.setIfInBounds_toArray, List.set_cons_zero, List.set_cons_succ]
  refine wpAnyH_take (i := 1) (v := ?_) rfl (by kernel_rfl) (by decide +kernel) (by decide +kernel) (fun _ _ _ h => h) (Or.inl ⟨by rfl, ?_⟩) (by assumption) ?_
  rotate_left
  · (intro w hSw; (try dsimp only at hSw); go_simp; first | done | with_reducible rfl)
  try simp only [List.getElem_toArray, List.getElem_cons_zero, List.getElem_cons_succ, Act.put, List.setIfInBounds_toArray, List.set_cons_zero, List.set_cons_succ]
  repeat' first
   | refine wpAnyH_ready (rs := [2, 5]) (by decide +kernel) (by simp) ?_
   | refine wpAnyH_ready (rs := [2]) (by decide +kernel) (by simp) ?_
   | refine wpAnyH_ready (rs := [3, 5]) (by decide +kernel) (by simp) ?_
   | refine wpAnyH_ready (rs := [3]) (by decide +kernel) (by simp) ?_
   | refine wpAnyH_ready (rs := [4, 5]) (by decide +kernel) (by simp) ?_
   | refine wpAnyH_ready (rs := [4]) (by decide +kernel) (by simp) ?_
   | refine wpAnyH_ready (rs := [5]) (by decide +kernel) (by simp) ?_
   | refine wpAnyH_ready (rs := [6]) (by decide +kernel) (by simp) ?_
   | refine AllReadyH.cons (i := 2) rfl (fun K hK2 => ?_) ?_
   | refine AllReadyH.cons (i := 3) rfl (fun K hK3 => ?_) ?_
   | refine AllReadyH.cons (i := 4) rfl (fun K hK4 => ?_) ?_
   | refine AllReadyH.cons (i := 5) rfl (fun K hK5 => ?_) ?_
   | refine AllReadyH.cons (i := 6) rfl (fun K hK6 => ?_) ?_
   | exact AllReadyH.nil
   | (have hK := hK2
      clear hK2
      (try clear hHeld)
      go_simp
      go_at_call 90
      ((with_reducible refine (frac_of (n := fi) (by omega) _).mono ?_))
      rintro e WD ⟨V2, rfl, o, uu⟩
      replace FX := FX.up uu
      try (replace p := p.up uu)
      try (replace f := f.up uu)
      try (replace od := od.up uu)
      replace b1 := b1.up uu
      replace r0 := r0.up uu
      try (replace x1 := x1.up uu)
      replace UP := UP.trans uu
      clear uu
      obtain ⟨WC, hWC⟩ : ∃ W, W = WD := ⟨_, rfl⟩
      subst hWC
      clear b1_0 b1_1 b1_2
      obtain ⟨b1_0, b1_1, b1_2⟩ := b1.c3
      replace r0_f0 := r0.free 0
      replace r0_f1 := r0.free 1
      replace r0_f2 := r0.free 2
      clear r0_0 r0_1 r0_2
      obtain ⟨r0_0, r0_1, r0_2⟩ := r0.c3
      rw [HY.out] at o
      obtain ⟨Xo, Yo, rfl, o, od⟩ := o
      obtain ⟨Ao, no, co, rfl⟩ := o.shape
      obtain ⟨Aod, nod, cod, rfl⟩ := od.shape
      try go_wp2_with fail
      refine hK.out _ _ (by exact ⟨UP, b1_0, b1_1, b1_2⟩) (fun hHeld => ?_)
      clear hK K
      try simp only [List.getElem_toArray, List.getElem_cons_zero, List.getElem_cons_succ, Act.put, List.setIfInBounds_toArray, List.set_cons_zero, List.set_cons_succ])
   | (have hK := hK3
      clear hK3
      (try clear hHeld)
      go_simp
      go_at_call 110
      ((with_reducible refine (frac_mul FX ((qw_of2 o od).fr LFI) (by omega) (by omega)).mono ?_))
      rintro e WD ⟨V3, rfl, p, uu⟩
      replace FX := FX.up uu
      try (replace o := o.up uu)
      try (replace f := f.up uu)
      try (replace od := od.up uu)
      replace b1 := b1.up uu
      replace r0 := r0.up uu
      try (replace x1 := x1.up uu)
      replace UP := UP.trans uu
      clear uu
      obtain ⟨WC, hWC⟩ : ∃ W, W = WD := ⟨_, rfl⟩
      subst hWC
      clear b1_0 b1_1 b1_2
      obtain ⟨b1_0, b1_1, b1_2⟩ := b1.c3
      replace r0_f0 := r0.free 0
      replace r0_f1 := r0.free 1
      replace r0_f2 := r0.free 2
      clear r0_0 r0_1 r0_2
      obtain ⟨r0_0, r0_1, r0_2⟩ := r0.c3
      rw [HM.out] at p
      try go_wp2_with fail
      refine hK.out _ _ (by exact ⟨UP, b1_0, b1_1, b1_2⟩) (fun hHeld => ?_)
      clear hK K
      try simp only [List.getElem_toArray, List.getElem_cons_zero, List.getElem_cons_succ, Act.put, List.setIfInBounds_toArray, List.set_cons_zero, List.set_cons_succ])
   | (have hK := hK4
      clear hK4
      (try clear hHeld)
      go_simp
      go_at_call 159
      ((with_reducible refine (frac_floor (p.fr LM) (by omega)).mono ?_))
      rintro e WD ⟨V4, rfl, f, uu⟩
      replace FX := FX.up uu
      try (replace o := o.up uu)
      try (replace p := p.up uu)
      try (replace od := od.up uu)
      replace b1 := b1.up uu
      replace r0 := r0.up uu
      try (replace x1 := x1.up uu)
      replace UP := UP.trans uu
      clear uu
      obtain ⟨WC, hWC⟩ : ∃ W, W = WD := ⟨_, rfl⟩
      subst hWC
      clear b1_0 b1_1 b1_2
      obtain ⟨b1_0, b1_1, b1_2⟩ := b1.c3
      replace r0_f0 := r0.free 0
      replace r0_f1 := r0.free 1
      replace r0_f2 := r0.free 2
      clear r0_0 r0_1 r0_2
      obtain ⟨r0_0, r0_1, r0_2⟩ := r0.c3
      rw [HF.out] at f
      obtain ⟨Xf, rfl, f⟩ := f
      obtain ⟨Af, nf, cf, rfl⟩ := f.shape
      try go_wp2_with fail
      refine hK.out _ _ (by exact ⟨UP, b1_0, b1_1, b1_2⟩) (fun hHeld => ?_)
      clear hK K
      try simp only [List.getElem_toArray, List.getElem_cons_zero, List.getElem_cons_succ, Act.put, List.setIfInBounds_toArray, List.set_cons_zero, List.set_cons_succ])
   | (have hK := hK5
      clear hK5
      (try clear hHeld)
      go_simp
      have x1 := Bx.new 32 WC [.bool false, .slice none 0 0]
      have b1_lt_x1 := b1.lt
      have r0_lt_x1 := r0.lt
      have x1_base := UP.size
      have nu := ((Up.refl WC).alloc (.cells #[.bool false, .slice none 0 0] 32))
      replace FX := FX.up nu
      try (replace o := o.up nu)
      try (replace p := p.up nu)
      try (replace f := f.up nu)
      try (replace od := od.up nu)
      replace b1 := b1.up nu
      replace r0 := r0.up nu
      replace UP := UP.trans nu
      clear nu
      generalize WC.alloc (.cells #[.bool false, .slice none 0 0] 32) = WD at *
      generalize WC.heap.size = gx1 at *
      obtain ⟨WC, hWC⟩ : ∃ W, W = WD := ⟨_, rfl⟩
      subst hWC
      clear b1_0 b1_1 b1_2
      obtain ⟨b1_0, b1_1, b1_2⟩ := b1.c3
      replace r0_f0 := r0.free 0
      replace r0_f1 := r0.free 1
      replace r0_f2 := r0.free 2
      clear r0_0 r0_1 r0_2
      obtain ⟨r0_0, r0_1, r0_2⟩ := r0.c3
      refine hK.out _ _ (by exact ⟨UP, b1_0, b1_1, b1_2⟩) (fun hHeld => ?_)
      clear hK K
      try simp only [List.getElem_toArray, List.getElem_cons_zero, List.getElem_cons_succ, Act.put, List.setIfInBounds_toArray, List.set_cons_zero, List.set_cons_succ])
   | (have hK := hK6
      clear hK6
      (try clear hHeld)
      obtain ⟨ce0, ce1⟩ := x1.c2
      have fr0 := x1.free 0
      have fr1 := x1.free 1
      go_simp
      clear ce0 ce1 fr0 fr1
      have KW : Kw (WC) ((WC).setCell ⟨gx1, 0, none⟩ (.bool (Wd.ngb F))) := Kw.store (c := (.bool false)) x1 rfl trivial _
      replace FX := FX.kw KW
      try (replace o := o.kw KW)
      try (replace p := p.kw KW)
      try (replace f := f.kw KW)
      try (replace od := od.kw KW)
      replace b1 := b1.far (p := ⟨gx1, 0, none⟩) (by dsimp only; omega) (.bool (Wd.ngb F))
      replace r0 := r0.far (p := ⟨gx1, 0, none⟩) (by dsimp only; omega) (.bool (Wd.ngb F))
      replace x1 : Bx 32 ((WC).setCell ⟨gx1, 0, none⟩ (.bool (Wd.ngb F))) (gx1) [.bool (Wd.ngb F), .slice none 0 0] := x1.set 0 (.bool (Wd.ngb F))
      replace UP := UP.setCell (p := ⟨gx1, 0, none⟩) (by dsimp only; omega) (.bool (Wd.ngb F))
      have KW : Kw (((WC).setCell ⟨gx1, 0, none⟩ (.bool (Wd.ngb F)))) ((((WC).setCell ⟨gx1, 0, none⟩ (.bool (Wd.ngb F)))).setCell ⟨gx1, 1, none⟩ (.slice Af nf cf)) := Kw.store (c := (.slice none 0 0)) x1 rfl trivial _
      replace FX := FX.kw KW
      try (replace o := o.kw KW)
      try (replace p := p.kw KW)
      try (replace f := f.kw KW)
      try (replace od := od.kw KW)
      replace b1 := b1.far (p := ⟨gx1, 1, none⟩) (by dsimp only; omega) (.slice Af nf cf)
      replace r0 := r0.far (p := ⟨gx1, 1, none⟩) (by dsimp only; omega) (.slice Af nf cf)
      replace x1 : Bx 32 ((((WC).setCell ⟨gx1, 0, none⟩ (.bool (Wd.ngb F)))).setCell ⟨gx1, 1, none⟩ (.slice Af nf cf)) (gx1) [.bool (Wd.ngb F), .slice Af nf cf] := x1.set 1 (.slice Af nf cf)
      replace UP := UP.setCell (p := ⟨gx1, 1, none⟩) (by dsimp only; omega) (.slice Af nf cf)
      clear KW
      generalize ((((WC).setCell ⟨gx1, 0, none⟩ (.bool (Wd.ngb F)))).setCell ⟨gx1, 1, none⟩ (.slice Af nf cf)) = WD at *
      obtain ⟨WC, hWC⟩ : ∃ W, W = WD := ⟨_, rfl⟩
      subst hWC
      clear b1_0 b1_1 b1_2
      obtain ⟨b1_0, b1_1, b1_2⟩ := b1.c3
      replace r0_f0 := r0.free 0
      replace r0_f1 := r0.free 1
      replace r0_f2 := r0.free 2
      clear r0_0 r0_1 r0_2
      obtain ⟨r0_0, r0_1, r0_2⟩ := r0.c3
      refine hK.out _ _ (by exact ⟨UP, b1_0, b1_1, b1_2⟩) (fun hHeld => ?_)
      clear hK K
      try simp only [List.getElem_toArray, List.getElem_cons_zero, List.getElem_cons_succ, Act.put, List.setIfInBounds_toArray, List.set_cons_zero, List.set_cons_succ])
   | refine wpAnyH_done (by decide +kernel) (NoPanic.normal ?_) _
   | fail
  all_goals try clear hHeld
  all_goals obtain ⟨x1_0, x1_1⟩ := x1.c2
  all_goals
   go_wp2_with fail
   go_meet
   exact ⟨gx1, _, _, _, rfl, x1, f, r0, UP⟩
 case rest =>
  obtain ⟨g, Af, nf, cf, rfl, x1, f, r0, UP⟩ := hcut
  obtain ⟨r0_0, r0_1, r0_2⟩ := r0.c3
  have r0_f0 := r0.free 0
  have r0_f1 := r0.free 1
  have r0_f2 := r0.free 2
  obtain ⟨x1_0, x1_1⟩ := x1.c2
  go_upto_region 2 with fail
  go_cut [6, 7] (fun s6 _ wx => ∃ (g2 : Nat) (A D : Option Addr) (n c m d : Nat), s6 = .pointer (some ⟨g2, 0, none⟩) ∧ Bx 34 wx g2 [.bool (Wd.ngb R.num), .slice A n c, .slice D m d] ∧ Qw wx (.agg #[.bool (Wd.ngb R.num), .slice A n c, .slice D m d]) R ∧ Bx 34 wx (w.heap.size + 1) [.bool false, .slice none 0 0, .slice none 0 0] ∧ Up w wx)
  case first =>
   replace f := f.up (Up.refl wc).drew
   replace r0 := r0.up (Up.refl wc).drew
   replace x1 := x1.up (Up.refl wc).drew
   replace UP := UP.trans (Up.refl wc).drew
   clear r0_0 r0_1 r0_2 x1_0 x1_1
   obtain ⟨r0_0, r0_1, r0_2⟩ := r0.c3
   replace r0_f0 := r0.free 0
   replace r0_f1 := r0.free 1
   replace r0_f2 := r0.free 2
   obtain ⟨x1_0, x1_1⟩ := x1.c2
   refine wp_region_noPanic ?_
   refine wp_region_held_drew (S := fun w' => Up w w' ∧ w'.cell? ⟨g, 0, none⟩ = some (.bool (Wd.ngb F)) ∧ w'.cell? ⟨g, 1, none⟩ = some (.slice Af nf cf)) (by kernel_rfl) (by exact ⟨UP, x1_0, x1_1⟩) (fun hHeld => ?_)
   clear hHeld
   generalize wc.drew = WC at *
   have hHeld : Up w WC ∧ WC.cell? ⟨g, 0, none⟩ = some (.bool (Wd.ngb F)) ∧ WC.cell? ⟨g, 1, none⟩ = some (.slice Af nf cf) := by exact ⟨UP, x1_0, x1_1⟩
   refine wpAnyH_take (i := 0) (v := ?_) rfl (by kernel_rfl) (by decide +kernel) (by decide +kernel) (fun _ _ _ h => h) (Or.inl ⟨by rfl, ?_⟩) (by assumption) ?_
   rotate_left
   · (intro w hSw; (try dsimp only at hSw); go_simp; first | done | with_reducible rfl)
   try simp only [List.getElem_toArray, List.getElem_cons_zero, List.getElem_cons_succ, Act.put, List.setIfInBounds_toArray, List.set_cons_zero, List.set_cons_succ]
   refine wpAnyH_take (i := 1) (v := ?_) rfl (by kernel_rfl) (by decide +kernel) (by decide +kernel) (fun _ _ _ h => h) (Or.inl ⟨by rfl, ?_⟩) (by assumption) ?_
   rotate_left
   · (intro w hSw; (try dsimp only at hSw); go_simp; first | done | with_reducible rfl)
   try simp only [List.getElem_toArray, List.getElem_cons_zero, List.getElem_cons_succ, Act.put, List.setIfInBounds_toArray, List.set_cons_zero, List.set_cons_succ]
   repeat' first
    | (refine wpAnyH_take (i := 3) (v := ?_) rfl (by kernel_rfl) (by decide +kernel) (by decide +kernel) (fun _ _ _ h => h) (Or.inl ⟨by rfl, ?_⟩) (by assumption) ?_
       rotate_left
       · (intro w hSw; (try dsimp only at hSw); go_simp; first | done | with_reducible rfl)
       try simp only [List.getElem_toArray, List.getElem_cons_zero, List.getElem_cons_succ, Act.put, List.setIfInBounds_toArray, List.set_cons_zero, List.set_cons_succ])
    | (refine wpAnyH_take (i := 5) (v := ?_) rfl (by kernel_rfl) (by decide +kernel) (by decide +kernel) (fun _ _ _ h => h) (Or.inl ⟨by rfl, ?_⟩) (by assumption) ?_
       rotate_left
       · (intro w hSw; (try dsimp only at hSw); go_simp; first | done | with_reducible rfl)
       try simp only [List.getElem_toArray, List.getElem_cons_zero, List.getElem_cons_succ, Act.put, List.setIfInBounds_toArray, List.set_cons_zero, List.set_cons_succ])
    | (refine wpAnyH_take (i := 6) (v := ?_) rfl (by kernel_rfl) (by decide +kernel) (by decide +kernel) (fun _ _ _ h => h) (Or.inl ⟨by rfl, ?_⟩) (by assumption) ?_
       rotate_left
       · (intro w hSw; (try dsimp only at hSw); go_simp; first | done | with_reducible rfl)
       try simp only [List.getElem_toArray, List.getElem_cons_zero, List.getElem_cons_succ, Act.put, List.setIfInBounds_toArray, List.set_cons_zero, List.set_cons_succ])
    | (refine wpAnyH_take (i := 7) (v := ?_) rfl (by kernel_rfl) (by decide +kernel) (by decide +kernel) (fun _ _ _ h => h) (Or.inl ⟨by rfl, ?_⟩) (by assumption) ?_
       rotate_left
       · (intro w hSw; (try dsimp only at hSw); go_simp; first | done | with_reducible rfl)
       try simp only [List.getElem_toArray, List.getElem_cons_zero, List.getElem_cons_succ, Act.put, List.setIfInBounds_toArray, List.set_cons_zero, List.set_cons_succ])
    | refine wpAnyH_ready (rs := [2, 8]) (by decide +kernel) (by simp) ?_
    | refine wpAnyH_ready (rs := [2]) (by decide +kernel) (by simp) ?_
    | refine wpAnyH_ready (rs := [4, 8]) (by decide +kernel) (by simp) ?_
    | refine wpAnyH_ready (rs := [4]) (by decide +kernel) (by simp) ?_
    | refine wpAnyH_ready (rs := [8]) (by decide +kernel) (by simp) ?_
    | refine wpAnyH_ready (rs := [9]) (by decide +kernel) (by simp) ?_
    | refine wpAnyH_ready (rs := [10]) (by decide +kernel) (by simp) ?_
    | refine AllReadyH.cons (i := 2) rfl (fun K hK2 => ?_) ?_
    | refine AllReadyH.cons (i := 4) rfl (fun K hK4 => ?_) ?_
    | refine AllReadyH.cons (i := 8) rfl (fun K hK8 => ?_) ?_
    | refine AllReadyH.cons (i := 9) rfl (fun K hK9 => ?_) ?_
    | refine AllReadyH.cons (i := 10) rfl (fun K hK10 => ?_) ?_
    | exact AllReadyH.nil
    | (have hK := hK2
       clear hK2
       (try clear hHeld)
       go_simp
       go_at_call 134
       ((with_reducible refine (whole_of (n := fi) (by omega) _).mono ?_))
       rintro e WD ⟨V2, rfl, z, uu⟩
       replace f := f.up uu
       try (replace p := p.up uu)
       try (replace pd := pd.up uu)
       replace r0 := r0.up uu
       replace x1 := x1.up uu
       try (replace x2 := x2.up uu)
       replace UP := UP.trans uu
       clear uu
       obtain ⟨WC, hWC⟩ : ∃ W, W = WD := ⟨_, rfl⟩
       subst hWC
       replace r0_f0 := r0.free 0
       replace r0_f1 := r0.free 1
       replace r0_f2 := r0.free 2
       clear r0_0 r0_1 r0_2
       obtain ⟨r0_0, r0_1, r0_2⟩ := r0.c3
       clear x1_0 x1_1
       obtain ⟨x1_0, x1_1⟩ := x1.c2
       obtain ⟨Xz, rfl, z⟩ := z
       obtain ⟨Az, nz, cz, rfl⟩ := z.shape
       try go_wp2_with fail
       refine hK.out _ _ (by exact ⟨UP, x1_0, x1_1⟩) (fun hHeld => ?_)
       clear hK K
       try simp only [List.getElem_toArray, List.getElem_cons_zero, List.getElem_cons_succ, Act.put, List.setIfInBounds_toArray, List.set_cons_zero, List.set_cons_succ])
    | (have hK := hK4
       clear hK4
       (try clear hHeld)
       go_simp
       go_at_call 160
       ((with_reducible refine (frac_new ((zw_of f).wh LF) z (by omega) (by omega)).mono ?_))
       rintro e WD ⟨V4, rfl, p, uu⟩
       replace f := f.up uu
       try (replace z := z.up uu)
       try (replace pd := pd.up uu)
       replace r0 := r0.up uu
       replace x1 := x1.up uu
       try (replace x2 := x2.up uu)
       replace UP := UP.trans uu
       clear uu
       obtain ⟨WC, hWC⟩ : ∃ W, W = WD := ⟨_, rfl⟩
       subst hWC
       replace r0_f0 := r0.free 0
       replace r0_f1 := r0.free 1
       replace r0_f2 := r0.free 2
       clear r0_0 r0_1 r0_2
       obtain ⟨r0_0, r0_1, r0_2⟩ := r0.c3
       clear x1_0 x1_1
       obtain ⟨x1_0, x1_1⟩ := x1.c2
       rw [HV.out] at p
       obtain ⟨Xp, Yp, rfl, p, pd⟩ := p
       obtain ⟨Ap, np, cp, rfl⟩ := p.shape
       obtain ⟨Apd, npd, cpd, rfl⟩ := pd.shape
       try go_wp2_with fail
       refine hK.out _ _ (by exact ⟨UP, x1_0, x1_1⟩) (fun hHeld => ?_)
       clear hK K
       try simp only [List.getElem_toArray, List.getElem_cons_zero, List.getElem_cons_succ, Act.put, List.setIfInBounds_toArray, List.set_cons_zero, List.set_cons_succ])
    | (have hK := hK8
       clear hK8
       (try clear hHeld)
       go_simp
       have x2 := Bx.new 34 WC [.bool false, .slice none 0 0, .slice none 0 0]
       have r0_lt_x2 := r0.lt
       have x1_lt_x2 := x1.lt
       have x2_base := UP.size
       have nu := ((Up.refl WC).alloc (.cells #[.bool false, .slice none 0 0, .slice none 0 0] 34))
       replace f := f.up nu
       try (replace z := z.up nu)
       try (replace p := p.up nu)
       try (replace pd := pd.up nu)
       replace r0 := r0.up nu
       replace x1 := x1.up nu
       replace UP := UP.trans nu
       clear nu
       generalize WC.alloc (.cells #[.bool false, .slice none 0 0, .slice none 0 0] 34) = WD at *
       generalize WC.heap.size = gx2 at *
       obtain ⟨WC, hWC⟩ : ∃ W, W = WD := ⟨_, rfl⟩
       subst hWC
       replace r0_f0 := r0.free 0
       replace r0_f1 := r0.free 1
       replace r0_f2 := r0.free 2
       clear r0_0 r0_1 r0_2
       obtain ⟨r0_0, r0_1, r0_2⟩ := r0.c3
       clear x1_0 x1_1
       obtain ⟨x1_0, x1_1⟩ := x1.c2
       refine hK.out _ _ (by exact ⟨UP, x1_0, x1_1⟩) (fun hHeld => ?_)
       clear hK K
       try simp only [List.getElem_toArray, List.getElem_cons_zero, List.getElem_cons_succ, Act.put, List.setIfInBounds_toArray, List.set_cons_zero, List.set_cons_succ])
    | (have hK := hK9
       clear hK9
       (try clear hHeld)
       obtain ⟨ce0, ce1, ce2⟩ := x2.c3
       have fr0 := x2.free 0
       have fr1 := x2.free 1
       have fr2 := x2.free 2
       go_simp
       clear ce0 ce1 ce2 fr0 fr1 fr2
       have KW : Kw (WC) ((WC).setCell ⟨gx2, 0, none⟩ (.bool (Wd.ngb R.num))) := Kw.store (c := (.bool false)) x2 rfl trivial _
       replace f := f.kw KW
       try (replace z := z.kw KW)
       try (replace p := p.kw KW)
       try (replace pd := pd.kw KW)
       replace r0 := r0.far (p := ⟨gx2, 0, none⟩) (by dsimp only; omega) (.bool (Wd.ngb R.num))
       replace x1 := x1.far (p := ⟨gx2, 0, none⟩) (by dsimp only; omega) (.bool (Wd.ngb R.num))
       replace x2 : Bx 34 ((WC).setCell ⟨gx2, 0, none⟩ (.bool (Wd.ngb R.num))) (gx2) [.bool (Wd.ngb R.num), .slice none 0 0, .slice none 0 0] := x2.set 0 (.bool (Wd.ngb R.num))
       replace UP := UP.setCell (p := ⟨gx2, 0, none⟩) (by dsimp only; omega) (.bool (Wd.ngb R.num))
       have KW : Kw (((WC).setCell ⟨gx2, 0, none⟩ (.bool (Wd.ngb R.num)))) ((((WC).setCell ⟨gx2, 0, none⟩ (.bool (Wd.ngb R.num)))).setCell ⟨gx2, 1, none⟩ (.slice Ap np cp)) := Kw.store (c := (.slice none 0 0)) x2 rfl trivial _
       replace f := f.kw KW
       try (replace z := z.kw KW)
       try (replace p := p.kw KW)
       try (replace pd := pd.kw KW)
       replace r0 := r0.far (p := ⟨gx2, 1, none⟩) (by dsimp only; omega) (.slice Ap np cp)
       replace x1 := x1.far (p := ⟨gx2, 1, none⟩) (by dsimp only; omega) (.slice Ap np cp)
       replace x2 : Bx 34 ((((WC).setCell ⟨gx2, 0, none⟩ (.bool (Wd.ngb R.num)))).setCell ⟨gx2, 1, none⟩ (.slice Ap np cp)) (gx2) [.bool (Wd.ngb R.num), .slice Ap np cp, .slice none 0 0] := x2.set 1 (.slice Ap np cp)
       replace UP := UP.setCell (p := ⟨gx2, 1, none⟩) (by dsimp only; omega) (.slice Ap np cp)
       have KW : Kw (((((WC).setCell ⟨gx2, 0, none⟩ (.bool (Wd.ngb R.num)))).setCell ⟨gx2, 1, none⟩ (.slice Ap np cp))) ((((((WC).setCell ⟨gx2, 0, none⟩ (.bool (Wd.ngb R.num)))).setCell ⟨gx2, 1, none⟩ (.slice Ap np cp))).setCell ⟨gx2, 2, none⟩ (.slice Apd npd cpd)) := Kw.store (c := (.slice none 0 0)) x2 rfl trivial _
       replace f := f.kw KW
       try (replace z := z.kw KW)
       try (replace p := p.kw KW)
       try (replace pd := pd.kw KW)
       replace r0 := r0.far (p := ⟨gx2, 2, none⟩) (by dsimp only; omega) (.slice Apd npd cpd)
       replace x1 := x1.far (p := ⟨gx2, 2, none⟩) (by dsimp only; omega) (.slice Apd npd cpd)
       replace x2 : Bx 34 ((((((WC).setCell ⟨gx2, 0, none⟩ (.bool (Wd.ngb R.num)))).setCell ⟨gx2, 1, none⟩ (.slice Ap np cp))).setCell ⟨gx2, 2, none⟩ (.slice Apd npd cpd)) (gx2) [.bool (Wd.ngb R.num), .slice Ap np cp, .slice Apd npd cpd] := x2.set 2 (.slice Apd npd cpd)
       replace UP := UP.setCell (p := ⟨gx2, 2, none⟩) (by dsimp only; omega) (.slice Apd npd cpd)
       clear KW
       generalize ((((((WC).setCell ⟨gx2, 0, none⟩ (.bool (Wd.ngb R.num)))).setCell ⟨gx2, 1, none⟩ (.slice Ap np cp))).setCell ⟨gx2, 2, none⟩ (.slice Apd npd cpd)) = WD at *
       obtain ⟨WC, hWC⟩ : ∃ W, W = WD := ⟨_, rfl⟩
       subst hWC
       replace r0_f0 := r0.free 0
       replace r0_f1 := r0.free 1
       replace r0_f2 := r0.free 2
       clear r0_0 r0_1 r0_2
       obtain ⟨r0_0, r0_1, r0_2⟩ := r0.c3
       clear x1_0 x1_1
       obtain ⟨x1_0, x1_1⟩ := x1.c2
       refine hK.out _ _ (by exact ⟨UP, x1_0, x1_1⟩) (fun hHeld => ?_)
       clear hK K
       try simp only [List.getElem_toArray, List.getElem_cons_zero, List.getElem_cons_succ, Act.put, List.setIfInBounds_toArray, List.set_cons_zero, List.set_cons_succ])
    | (have hK := hK10
       clear hK10
       (try clear hHeld)
       go_simp
       refine hK.out _ _ (by exact ⟨UP, x1_0, x1_1⟩) (fun hHeld => ?_)
       clear hK K
       try simp only [List.getElem_toArray, List.getElem_cons_zero, List.getElem_cons_succ, Act.put, List.setIfInBounds_toArray, List.set_cons_zero, List.set_cons_succ])
    | refine wpAnyH_done (by decide +kernel) (NoPanic.normal ?_) _
    | fail
   all_goals try clear hHeld
   all_goals obtain ⟨x2_0, x2_1, x2_2⟩ := x2.c3
   all_goals
    go_wp2_with fail
    go_meet
    exact ⟨gx2, _, _, _, _, _, _, rfl, x2, qw_of2 p pd, r0, UP⟩
  case rest =>
   obtain ⟨g2, A, D, n, c, m', d, rfl, x2, R2, r0, UP⟩ := hcut
   clear x1_0 x1_1 f x1 r0_0 r0_1 r0_2 r0_f0 r0_f1 r0_f2
   obtain ⟨r0_0, r0_1, r0_2⟩ := r0.c3
   have r0_f0 := r0.free 0
   have r0_f1 := r0.free 1
   have r0_f2 := r0.free 2
   obtain ⟨x2_0, x2_1, x2_2⟩ := x2.c3
   go_wp2_with fail
   exact end_q rfl rfl rfl R2 r0 trivial trivial trivial UP (by omega)
end Go.Proofs.YtmmcffceeahemaaGreat
