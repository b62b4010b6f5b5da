/-
  Layer 15, the document's answers: a line, the same everywhere, times -1, values, whether one is 0, whether two are the same.
-/
import Derived.Test.YtmmcffceeahemaaGreatZtRefRatf2
import Derived.Test.YtmmcffceeahemaaGreatZtRatf3
import Derived.Test.YtmmcffceeahemaaGreatZtShort
set_option linter.unusedVariables false
set_option linter.unusedSimpArgs false
namespace Pq
theorem can_const (c d : Rat) (hd : d = 0) : Can [c, d] [1] (nm [c]) [1] :=
 ⟨tr_nm _, .inr rfl, by simp, fun x => by subst hd; rw [E_nm]; simp only [E, Rat.mul_zero, Rat.add_zero], [], [1], fun x => by rw [E_nil, E_one]; grind⟩
end Pq
namespace Go.Proofs.YtmmcffceeahemaaGreat
open Go.RowKit
theorem rfs_row {k : Nat} {w : World} {g : Nat} {xs : List F3} {qs : List Rat} (hb : Bx 24 w g (fcells xs)) (ha : Al (fun x q => Frk k w x.agg q) xs qs) (hl : qs.length ≤ 1000000) : FSq k w (.slice (some ⟨g, 0, none⟩) qs.length qs.length) qs := by
 have hok : ∀ x ∈ xs, x.ok := fun x hx => by
  obtain ⟨j, hj⟩ := List.getElem?_of_mem hx
  have hjl : j < qs.length := by rw [← ha.1]; exact (List.getElem?_eq_some_iff.1 hj).1
  obtain ⟨z, e, hz⟩ := (kp_fr k).form (ha.2 j x _ hj (List.getElem?_eq_getElem hjl))
  rw [F3.agg_inj e]
  exact hz
 have : OwnQ (Frk k) 24 0 w (.slice (some ⟨g, 0, none⟩) xs.length xs.length) qs := ⟨xs, ha, hok, .inr ⟨g, [], rfl, Nat.zero_le _, by rw [List.append_nil]; exact hb, by simp, by rw [ha.1]; simp [maxLen]; omega⟩⟩
 rw [ha.1] at this
 exact this.sq
theorem rfs_two {k : Nat} {w : World} {g : Nat} {s1 s2 : Bool} {u1 d1 u2 d2 : Value} {q1 q2 : Rat} (hb : Bx 24 w g [.bool s1, u1, d1, .bool s2, u2, d2]) (h1 : Fr w (.agg #[.bool s1, u1, d1]) q1 k) (h2 : Fr w (.agg #[.bool s2, u2, d2]) q2 k) : FSq k w (.slice (some ⟨g, 0, none⟩) 2 2) [q1, q2] :=
 rfs_row (xs := [⟨s1, u1, d1⟩, ⟨s2, u2, d2⟩]) hb ((Al.one (R := fun x q => Frk k w x.agg q) (x := ⟨s1, u1, d1⟩) h1).append (Al.one h2)) (by simp)
theorem ARow.q {k : Nat} {w : World} {v : Value} {qs : List Rat} (h : ARow k w v qs) : QSq k w v qs := OwnQ.sq h
set_option maxRecDepth 100000 in
set_option maxHeartbeats 6400000 in
theorem ref_line15 {v u : Value} {x y : Rat} {k : Nat} {w : World} (h : Qw w v x) (h2 : Qw w u y) (lx : Wd.Lq x k) (ly : Wd.Lq y k) (hk : k ≤ 1000) (hk2 : 2 ≤ k) : Calls Tryz.prog 130 #[v, u] w (RetGn 12008 2 [x, y] [1] w) := by
 have HPU : Hid (Pq.pu [x, y] [1] = [x, y]) := Lib.hid (Pq.pu_of (by rw [Pq.nm_one]; simp))
 have HPD : Hid (Pq.pd [x, y] [1] = [1]) := Lib.hid (Pq.pd_of (by rw [Pq.nm_one]; simp))
 have LJ : Hid (Pq.Lp ([x, y] ++ [1]) 3001) := Lib.hid ((Pq.Lp.few (k := 1000) (fun z hz => by
  simp only [List.cons_append, List.nil_append, List.mem_cons, List.not_mem_nil, or_false] at hz
  rcases hz with rfl | rfl | rfl
  · exact lx.mono hk
  · exact ly.mono hk
  · exact lq_one.mono (by omega))).mono (by simp))
 obtain ⟨X1, Y1, rfl, x1, xd1⟩ := h
 obtain ⟨A1, n1, c1, rfl⟩ := x1.shape
 obtain ⟨D1, p1, d1, rfl⟩ := xd1.shape
 obtain ⟨X2, Y2, rfl, x2, xd2⟩ := h2
 obtain ⟨A2, n2, c2, rfl⟩ := x2.shape
 obtain ⟨D2, p2, d2, rfl⟩ := xd2.shape
 have UP : Up w (((w.alloc (.cells #[.bool (Wd.ngb x.num), .slice A1 n1 c1, .slice D1 p1 d1] 24)).alloc (.cells #[.bool (Wd.ngb y.num), .slice A2 n2 c2, .slice D2 p2 d2] 24)).alloc (.cells #[.slice none 0 0, .slice none 0 0] 80)) := (((Up.refl w).alloc _).alloc _).alloc _
 obtain ⟨b0, b1, r0⟩ := bx_three 24 24 80 w [.bool (Wd.ngb x.num), .slice A1 n1 c1, .slice D1 p1 d1] [.bool (Wd.ngb y.num), .slice A2 n2 c2, .slice D2 p2 d2] [.slice none 0 0, .slice none 0 0]
 go_enter Tryz.func130, Tryz.ntmps130
 go_upto_region 1 with fail
 generalize (((w.alloc (.cells #[.bool (Wd.ngb x.num), .slice A1 n1 c1, .slice D1 p1 d1] 24)).alloc (.cells #[.bool (Wd.ngb y.num), .slice A2 n2 c2, .slice D2 p2 d2] 24)).alloc (.cells #[.slice none 0 0, .slice none 0 0] 80)) = W at *
 revert x1 xd1 x2 xd2
 refine lg4 UP ?_
 intro x1 xd1 x2 xd2
 obtain ⟨b0_0, b0_1, b0_2⟩ := b0.c3
 obtain ⟨b1_0, b1_1, b1_2⟩ := b1.c3
 obtain ⟨r0_0, r0_1⟩ := r0.c2
 have r0_f0 := r0.free
 revert UP b0 b1 r0 x1 xd1 x2 xd2 b0_0 b0_1 b0_2 b1_0
 refine lg12 (Up.refl W).drew ?_
 intro UP b0 b1 r0 x1 xd1 x2 xd2 b0_0 b0_1 b0_2 b1_0
 revert b1_1 b1_2 r0_0 r0_1
 refine lg4 (Up.refl W).drew ?_
 intro b1_1 b1_2 r0_0 r0_1
 replace r0_f0 := r0.free
 refine wp_region_noPanic ?_
 refine wp_region_held_drew (S := fun w' => Up w w' ∧ w'.cell? ⟨w.heap.size, 0, none⟩ = some (.bool (Wd.ngb x.num)) ∧ w'.cell? ⟨w.heap.size, 1, none⟩ = some (.slice A1 n1 c1) ∧ w'.cell? ⟨w.heap.size, 2, none⟩ = some (.slice D1 p1 d1) ∧ w'.cell? ⟨w.heap.size + 1, 0, none⟩ = some (.bool (Wd.ngb y.num)) ∧ w'.cell? ⟨w.heap.size + 1, 1, none⟩ = some (.slice A2 n2 c2) ∧ w'.cell? ⟨w.heap.size + 1, 2, none⟩ = some (.slice D2 p2 d2)) (by kernel_rfl) (by exact ⟨UP, b0_0, b0_1, b0_2, b1_0, b1_1, b1_2⟩) (fun hHeld => ?_)
 clear hHeld
 generalize W.drew = WC at *
 have hHeld : Up w WC ∧ WC.cell? ⟨w.heap.size, 0, none⟩ = some (.bool (Wd.ngb x.num)) ∧ WC.cell? ⟨w.heap.size, 1, none⟩ = some (.slice A1 n1 c1) ∧ WC.cell? ⟨w.heap.size, 2, none⟩ = some (.slice D1 p1 d1) ∧ WC.cell? ⟨w.heap.size + 1, 0, none⟩ = some (.bool (Wd.ngb y.num)) ∧ WC.cell? ⟨w.heap.size + 1, 1, none⟩ = some (.slice A2 n2 c2) ∧ WC.cell? ⟨w.heap.size + 1, 2, none⟩ = some (.slice D2 p2 d2) := by exact ⟨UP, b0_0, b0_1, b0_2, b1_0, b1_1, b1_2⟩
 refine tk 0 ?_
 try simp only [gs, Act.put]
 refine tk 1 ?_
 try simp only [gs, Act.put]
 repeat' first
  | (refine tk 4 ?_
     try simp only [gs, Act.put])
  | refine wpAnyH_ready (rs := [2, 3]) (by decide +kernel) (by simp) ?_
  | refine wpAnyH_ready (rs := [2]) (by decide +kernel) (by simp) ?_
  | refine wpAnyH_ready (rs := [3]) (by decide +kernel) (by simp) ?_
  | refine wpAnyH_ready (rs := [5]) (by decide +kernel) (by simp) ?_
  | refine wpAnyH_ready (rs := [6]) (by decide +kernel) (by simp) ?_
  | refine AllReadyH.cons (i := 2) rfl (fun K hK2 => ?_) ?_
  | refine AllReadyH.cons (i := 3) rfl (fun K hK3 => ?_) ?_
  | refine AllReadyH.cons (i := 5) rfl (fun K hK5 => ?_) ?_
  | refine AllReadyH.cons (i := 6) rfl (fun K hK6 => ?_) ?_
  | exact AllReadyH.nil
  | (have hK := hK2
     clear hK2
     (try clear hHeld)
     go_simp
     have y1 := Bx.new 24 WC [.bool (Wd.ngb x.num), .slice A1 n1 c1, .slice D1 p1 d1, .bool (Wd.ngb y.num), .slice A2 n2 c2, .slice D2 p2 d2]
     have b0_lt_y1 := b0.lt
     have b1_lt_y1 := b1.lt
     have r0_lt_y1 := r0.lt
     have y1_base := UP.size
     have nu := ((Up.refl WC).alloc (.cells #[.bool (Wd.ngb x.num), .slice A1 n1 c1, .slice D1 p1 d1, .bool (Wd.ngb y.num), .slice A2 n2 c2, .slice D2 p2 d2] 24))
     refine li8 nu x1 xd1 x2 xd2 b0 b1 r0 UP ?_; clear x1 xd1 x2 xd2 b0 b1 r0 UP; intro x1 xd1 x2 xd2 b0 b1 r0 UP
     try (replace o := o.up nu)
     try (replace a := a.up nu)
     try (replace b := b.up nu)
     clear nu
     generalize WC.alloc (.cells #[.bool (Wd.ngb x.num), .slice A1 n1 c1, .slice D1 p1 d1, .bool (Wd.ngb y.num), .slice A2 n2 c2, .slice D2 p2 d2] 24) = WD at *
     generalize WC.heap.size = gy1 at *
     obtain ⟨WC, hWC⟩ : ∃ W, W = WD := ⟨_, rfl⟩
     subst hWC
     clear b0_0 b0_1 b0_2
     obtain ⟨b0_0, b0_1, b0_2⟩ := b0.c3
     clear b1_0 b1_1 b1_2
     obtain ⟨b1_0, b1_1, b1_2⟩ := b1.c3
     replace r0_f0 := r0.free
     clear r0_0 r0_1
     obtain ⟨r0_0, r0_1⟩ := r0.c2
     refine hK.out _ _ (by exact ⟨UP, b0_0, b0_1, b0_2, b1_0, b1_1, b1_2⟩) (fun hHeld => ?_)
     clear hK K
     try simp only [gs, Act.put])
  | (have hK := hK3
     clear hK3
     (try clear hHeld)
     go_simp
     go_at_call 127
     ((with_reducible refine (ref_one15 _).mono ?_))
     rintro e WD ⟨V3, rfl, o, uu⟩
     obtain ⟨Ao, co, rfl⟩ := o.form
     refine li8 uu x1 xd1 x2 xd2 b0 b1 r0 UP ?_; clear x1 xd1 x2 xd2 b0 b1 r0 UP; intro x1 xd1 x2 xd2 b0 b1 r0 UP
     try (replace a := a.up uu)
     try (replace b := b.up uu)
     try (replace y1 := y1.up uu)
     clear uu
     obtain ⟨WC, hWC⟩ : ∃ W, W = WD := ⟨_, rfl⟩
     subst hWC
     clear b0_0 b0_1 b0_2
     obtain ⟨b0_0, b0_1, b0_2⟩ := b0.c3
     clear b1_0 b1_1 b1_2
     obtain ⟨b1_0, b1_1, b1_2⟩ := b1.c3
     replace r0_f0 := r0.free
     clear r0_0 r0_1
     obtain ⟨r0_0, r0_1⟩ := r0.c2
     simp only [List.length_cons, List.length_nil, Nat.zero_add] at o
     try go_wp2_with fail
     refine hK.out _ _ (by exact ⟨UP, b0_0, b0_1, b0_2, b1_0, b1_1, b1_2⟩) (fun hHeld => ?_)
     clear hK K
     try simp only [gs, Act.put])
  | (have hK := hK5
     clear hK5
     (try clear hHeld)
     go_simp
     go_at_call 61
     ((with_reducible refine (ref_norm15 (m := 2) (ka := k) (K := 12008) (DD := 48035) (Z := 156113) (j := 3001) (rfs_two y1 ((qw_of x1 xd1).fr lx) ((qw_of x2 xd2).fr ly)) (o.q.fr.mono hk2) (by simp) (by simp) (by omega) (by omega) LJ.out (by omega) (by omega) (by omega) (by omega) (by omega) HPU HPD).mono ?_))
     rintro e WD ⟨V5, U5, psa, qsa, rfl, a, b, caa, lpa, lea, uu⟩
     obtain ⟨Aa, ca, rfl⟩ := a.form
     obtain ⟨Ab, cb, rfl⟩ := b.form
     refine li8 uu x1 xd1 x2 xd2 b0 b1 r0 UP ?_; clear x1 xd1 x2 xd2 b0 b1 r0 UP; intro x1 xd1 x2 xd2 b0 b1 r0 UP
     try (replace o := o.up uu)
     try (replace y1 := y1.up uu)
     clear uu
     obtain ⟨WC, hWC⟩ : ∃ W, W = WD := ⟨_, rfl⟩
     subst hWC
     clear b0_0 b0_1 b0_2
     obtain ⟨b0_0, b0_1, b0_2⟩ := b0.c3
     clear b1_0 b1_1 b1_2
     obtain ⟨b1_0, b1_1, b1_2⟩ := b1.c3
     replace r0_f0 := r0.free
     clear r0_0 r0_1
     obtain ⟨r0_0, r0_1⟩ := r0.c2
     try go_wp2_with fail
     refine hK.out _ _ (by exact ⟨UP, b0_0, b0_1, b0_2, b1_0, b1_1, b1_2⟩) (fun hHeld => ?_)
     clear hK K
     try simp only [gs, Act.put])
  | (have hK := hK6
     clear hK6
     (try clear hHeld)
     obtain ⟨ce0, ce1⟩ := r0.c2
     have fr0 := r0.free 0
     have fr1 := r0.free 1
     go_simp
     clear ce0 ce1 fr0 fr1
     have KW : Kw (WC) ((WC).setCell ⟨w.heap.size + 1 + 1, 0, none⟩ (.slice Aa psa.length ca)) := Kw.store (c := (.slice none 0 0)) r0 rfl trivial _
     refine li4 KW x1 xd1 x2 xd2 ?_; clear x1 xd1 x2 xd2; intro x1 xd1 x2 xd2
     try (replace o := o.kw KW)
     try (replace a := a.stored r0 (by decide) KW)
     try (replace b := b.stored r0 (by decide) KW)
     replace b0 := b0.fr (w.heap.size + 1 + 1) 0 (.slice Aa psa.length ca)
     replace b1 := b1.fr (w.heap.size + 1 + 1) 0 (.slice Aa psa.length ca)
     replace y1 := y1.far (p := ⟨w.heap.size + 1 + 1, 0, none⟩) (by dsimp only; first | omega | (have := y1_lt_r0; omega) | (have := r0_lt_y1; omega)) (.slice Aa psa.length ca)
     replace r0 : Bx 80 ((WC).setCell ⟨w.heap.size + 1 + 1, 0, none⟩ (.slice Aa psa.length ca)) (w.heap.size + 1 + 1) [.slice Aa psa.length ca, .slice none 0 0] := r0.set 0 (.slice Aa psa.length ca)
     replace UP := UP.setCell (p := ⟨w.heap.size + 1 + 1, 0, none⟩) (by dsimp only; omega) (.slice Aa psa.length ca)
     have KW : Kw (((WC).setCell ⟨w.heap.size + 1 + 1, 0, none⟩ (.slice Aa psa.length ca))) ((((WC).setCell ⟨w.heap.size + 1 + 1, 0, none⟩ (.slice Aa psa.length ca))).setCell ⟨w.heap.size + 1 + 1, 1, none⟩ (.slice Ab qsa.length cb)) := Kw.store (c := (.slice none 0 0)) r0 rfl trivial _
     revert x1 xd1 x2 xd2; refine lg4 KW ?_; intro x1 xd1 x2 xd2
     try (replace o := o.kw KW)
     try (replace a := a.stored r0 (by decide) KW)
     try (replace b := b.stored r0 (by decide) KW)
     replace b0 := b0.fr (w.heap.size + 1 + 1) 1 (.slice Ab qsa.length cb)
     replace b1 := b1.fr (w.heap.size + 1 + 1) 1 (.slice Ab qsa.length cb)
     replace y1 := y1.far (p := ⟨w.heap.size + 1 + 1, 1, none⟩) (by dsimp only; first | omega | (have := y1_lt_r0; omega) | (have := r0_lt_y1; omega)) (.slice Ab qsa.length cb)
     replace r0 : Bx 80 ((((WC).setCell ⟨w.heap.size + 1 + 1, 0, none⟩ (.slice Aa psa.length ca))).setCell ⟨w.heap.size + 1 + 1, 1, none⟩ (.slice Ab qsa.length cb)) (w.heap.size + 1 + 1) [.slice Aa psa.length ca, .slice Ab qsa.length cb] := r0.set 1 (.slice Ab qsa.length cb)
     replace UP := UP.setCell (p := ⟨w.heap.size + 1 + 1, 1, none⟩) (by dsimp only; omega) (.slice Ab qsa.length cb)
     clear KW
     generalize ((((WC).setCell ⟨w.heap.size + 1 + 1, 0, none⟩ (.slice Aa psa.length ca))).setCell ⟨w.heap.size + 1 + 1, 1, none⟩ (.slice Ab qsa.length cb)) = WD at *
     obtain ⟨WC, hWC⟩ : ∃ W, W = WD := ⟨_, rfl⟩
     subst hWC
     clear b0_0 b0_1 b0_2
     obtain ⟨b0_0, b0_1, b0_2⟩ := b0.c3
     clear b1_0 b1_1 b1_2
     obtain ⟨b1_0, b1_1, b1_2⟩ := b1.c3
     replace r0_f0 := r0.free
     clear r0_0 r0_1
     obtain ⟨r0_0, r0_1⟩ := r0.c2
     refine hK.out _ _ (by exact ⟨UP, b0_0, b0_1, b0_2, b1_0, b1_1, b1_2⟩) (fun hHeld => ?_)
     clear hK K
     try simp only [gs, Act.put])
  | refine wpAnyH_done (by decide +kernel) (NoPanic.normal ?_) _
  | fail
 all_goals try clear hHeld
 all_goals obtain ⟨y1_0, y1_1, y1_2, y1_3, y1_4, y1_5⟩ := y1.c6
 all_goals
  go_wp2_with fail
  exact bodyPost_ret (run_res_cell rfl rfl agg_rfun size_rfun r0 rfl) rfl ⟨_, _, _, _, rfl, a, b, caa, lpa, lea, UP⟩
/-- Rows of the document's come back, given. -/
def RetGA (K : Nat) (P Q : List Rat) (w : World) (e : Ending) (w' : World) : Prop := ∃ V U, e = .returned (.agg #[V, U]) ∧ GRow K w' V P ∧ GRow K w' U Q ∧ Up w w'
set_option maxRecDepth 100000 in
set_option maxHeartbeats 6400000 in
theorem ref_of15 {v : Value} {x : Rat} {k : Nat} {w : World} (h : Qw w v x) (lx : Wd.Lq x k) (hk : k ≤ 1000) (hk2 : 2 ≤ k) {R : List Rat} (HR : Hid (Pq.nm [x] = R)) : Calls Tryz.prog 64 #[v] w (RetGA k R [1] w) := by
 obtain ⟨z, HZ⟩ : ∃ z, Hid (((0 : Int) : Rat) = z) := ⟨_, Lib.hid rfl⟩
 have LZ : Wd.Lq z 2 := by rw [← HZ.out]; exact lq_int (by omega)
 have HU : Hid (∀ U D, Pq.Can [x, z] [1] U D → U = R ∧ D = [1]) := Lib.hid (fun U D hc => by
  rw [← HR.out]
  exact hc.unique (by rw [Pq.nm_one]; simp) (Pq.can_const x z (by rw [← HZ.out]; rfl)))
 have HL : Hid (∀ y ∈ R, Wd.Lq y k) := Lib.hid (fun y hy => by
  rw [← HR.out] at hy
  rw [List.mem_singleton.1 (Pq.nm_mem hy)]
  exact lx)
 have HL1 : Hid (∀ y ∈ ([1] : List Rat), Wd.Lq y k) := Lib.hid (fun y hy => by rw [List.mem_singleton.1 hy]; exact lq_one.mono hk2)
 obtain ⟨X1, Y1, rfl, x1, xd1⟩ := h
 obtain ⟨A1, n1, c1, rfl⟩ := x1.shape
 obtain ⟨D1, p1, d1, rfl⟩ := xd1.shape
 have UP : Up w ((w.alloc (.cells #[.bool (Wd.ngb x.num), .slice A1 n1 c1, .slice D1 p1 d1] 24)).alloc (.cells #[.slice none 0 0, .slice none 0 0] 80)) := ((Up.refl w).alloc _).alloc _
 obtain ⟨b0, r0⟩ := bx_two 24 80 w [.bool (Wd.ngb x.num), .slice A1 n1 c1, .slice D1 p1 d1] [.slice none 0 0, .slice none 0 0]
 go_enter Tryz.func64, Tryz.ntmps64
 go_wp2_with fail
 generalize ((w.alloc (.cells #[.bool (Wd.ngb x.num), .slice A1 n1 c1, .slice D1 p1 d1] 24)).alloc (.cells #[.slice none 0 0, .slice none 0 0] 80)) = W at *
 revert x1 xd1
 refine lg2 UP ?_
 intro x1 xd1
 obtain ⟨b0_0, b0_1, b0_2⟩ := b0.c3
 obtain ⟨r0_0, r0_1⟩ := r0.c2
 have r0_f0 := r0.free
 revert UP b0 r0 x1 xd1 b0_0 b0_1 b0_2
 refine lg8 (Up.refl W).drew ?_
 intro UP b0 r0 x1 xd1 b0_0 b0_1 b0_2
 obtain ⟨r0_0, r0_1⟩ := r0.c2
 have r0_f0 := r0.free
 refine wp_region_noPanic ?_
 refine wp_region_held_drew (S := fun w' => Up w w' ∧ w'.cell? ⟨w.heap.size, 0, none⟩ = some (.bool (Wd.ngb x.num)) ∧ w'.cell? ⟨w.heap.size, 1, none⟩ = some (.slice A1 n1 c1) ∧ w'.cell? ⟨w.heap.size, 2, none⟩ = some (.slice D1 p1 d1)) (by kernel_rfl) ?_ (fun hHeld => ?_)
 · with_reducible exact ⟨UP, b0_0, b0_1, b0_2⟩
 refine tk 0 ?_
 try simp only [gs, Act.put]
 refine rd 1 (fun K hK => ?_)
 go_simp
 (first
   | (go_at_call 65
      ((with_reducible refine (ref9_int (n := 0) (by omega) _).mono ?_))
      rintro e W1 ⟨V1, rfl, o, u1⟩
      revert UP b0 r0 x1 xd1 b0_0 b0_1 b0_2 r0_0 r0_1; refine lg10 u1 ?_; intro UP b0 r0 x1 xd1 b0_0 b0_1 b0_2 r0_0 r0_1
      try (replace o := o.up u1)
      try (replace a := a.up u1)
      try (replace b := b.up u1)
      replace r0_f0 := r0.free
      clear u1
      rw [HZ.out] at o))
 try go_wp2_with fail
 try clear hHeld
 refine hK.out _ _ ?_ (fun hHeld => ?_)
 · with_reducible exact ⟨UP, b0_0, b0_1, b0_2⟩
 clear hK K
 try simp only [gs, Act.put]
 refine rd 2 (fun K hK => ?_)
 go_simp
 (first
   | (go_at_call 130
      ((with_reducible refine (ref_line15 (qw_of x1 xd1) o lx (LZ.mono hk2) hk hk2).mono ?_))
      rintro e W2 ⟨V2, U2, psa, qsa, rfl, a, b, caa, lpa, lea, u2⟩
      obtain ⟨Aa, ca, rfl⟩ := a.form
      obtain ⟨Ab, cb, rfl⟩ := b.form
      revert UP b0 r0 x1 xd1 b0_0 b0_1 b0_2 r0_0 r0_1; refine lg10 u2 ?_; intro UP b0 r0 x1 xd1 b0_0 b0_1 b0_2 r0_0 r0_1
      try (replace o := o.up u2)
      try (replace a := a.up u2)
      try (replace b := b.up u2)
      replace r0_f0 := r0.free
      clear u2))
 try go_wp2_with fail
 try clear hHeld
 refine hK.out _ _ ?_ (fun hHeld => ?_)
 · with_reducible exact ⟨UP, b0_0, b0_1, b0_2⟩
 clear hK K
 try simp only [gs, Act.put]
 refine rd 3 (fun K hK => ?_)
 go_simp
 skip
 try go_wp2_with fail
 try clear hHeld
 refine hK.out _ _ ?_ (fun hHeld => ?_)
 · (first | with_reducible exact ⟨UP, b0_0, b0_1, b0_2⟩ | with_reducible exact ⟨(us (us UP)), (cf (cf b0_0)), (cf (cf b0_1)), (cf (cf b0_2))⟩)
 clear hK K
 try simp only [gs, Act.put]
 refine wpAnyH_done (by kernel_rfl) ?_ _
 refine NoPanic.normal ?_
 clear hHeld
 clear o
 obtain ⟨e1, e2⟩ := HU.out _ _ caa.out
 have KW : Kw (W2) ((W2).setCell ⟨w.heap.size + 1, 0, none⟩ (.slice Aa psa.length ca)) := Kw.store (c := (.slice none 0 0)) r0 rfl trivial _
 revert x1 xd1
 refine lg2 KW ?_
 intro x1 xd1
 replace a := a.stored r0 (by decide) KW
 replace b := b.stored r0 (by decide) KW
 replace b0 := b0.fr (w.heap.size + 1) 0 (.slice Aa psa.length ca)
 replace r0 : Bx 80 ((W2).setCell ⟨w.heap.size + 1, 0, none⟩ (.slice Aa psa.length ca)) (w.heap.size + 1) [.slice Aa psa.length ca, .slice none 0 0] := r0.set 0 (.slice Aa psa.length ca)
 replace UP := UP.setCell (p := ⟨w.heap.size + 1, 0, none⟩) (by dsimp only; omega) (.slice Aa psa.length ca)
 have KW : Kw (((W2).setCell ⟨w.heap.size + 1, 0, none⟩ (.slice Aa psa.length ca))) ((((W2).setCell ⟨w.heap.size + 1, 0, none⟩ (.slice Aa psa.length ca))).setCell ⟨w.heap.size + 1, 1, none⟩ (.slice Ab qsa.length cb)) := Kw.store (c := (.slice none 0 0)) r0 rfl trivial _
 revert x1 xd1
 refine lg2 KW ?_
 intro x1 xd1
 replace a := a.stored r0 (by decide) KW
 replace b := b.stored r0 (by decide) KW
 replace b0 := b0.fr (w.heap.size + 1) 1 (.slice Ab qsa.length cb)
 replace r0 : Bx 80 ((((W2).setCell ⟨w.heap.size + 1, 0, none⟩ (.slice Aa psa.length ca))).setCell ⟨w.heap.size + 1, 1, none⟩ (.slice Ab qsa.length cb)) (w.heap.size + 1) [.slice Aa psa.length ca, .slice Ab qsa.length cb] := r0.set 1 (.slice Ab qsa.length cb)
 replace UP := UP.setCell (p := ⟨w.heap.size + 1, 1, none⟩) (by dsimp only; omega) (.slice Ab qsa.length cb)
 clear KW
 generalize ((((W2).setCell ⟨w.heap.size + 1, 0, none⟩ (.slice Aa psa.length ca))).setCell ⟨w.heap.size + 1, 1, none⟩ (.slice Ab qsa.length cb)) = W3 at *
 clear b0_0 b0_1 b0_2 r0_0 r0_1
 obtain ⟨b0_0, b0_1, b0_2⟩ := b0.c3
 obtain ⟨r0_0, r0_1⟩ := r0.c2
 go_wp2_with fail
 subst e1 e2
 exact bodyPost_ret (run_res_cell rfl rfl agg_rfun size_rfun r0 rfl) rfl ⟨_, _, rfl, a.re HL.out, b.re HL1.out, UP⟩
end Go.Proofs.YtmmcffceeahemaaGreat
