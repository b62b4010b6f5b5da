/-
  Layer 14: a polynomial's value.
  Layer 14: a polynomial's derivative.
-/
import Derived.Test.YtmmcffceeahemaaGreatZtPoly2
import Derived.Test.YtmmcffceeahemaaGreatZtShort
import Derived.Deep.RegionLaw
set_option linter.unusedVariables false
set_option linter.unusedSimpArgs false
namespace Pq
theorem E_drop {p : List Rat} {m : Nat} (h : m < p.length) (x : Rat) : E (p.drop m) x = E (p.drop (m + 1)) x * x + p[m] := by
 rw [List.drop_eq_getElem_cons h]
 show p[m] + x * E (p.drop (m + 1)) x = _
 rw [Rat.add_comm, Rat.mul_comm]
end Pq
namespace Go.Proofs.YtmmcffceeahemaaGreat
open Go.RowKit
theorem lq_eval {x : Rat} {kx ka : Nat} (hx : Wd.Lq x kx) : ∀ (qs : List Rat), (∀ q ∈ qs, Wd.Lq q ka) → Wd.Lq (Pq.E qs x) (qs.length * (kx + ka + 1) + 2)
 | [], _ => (lq_int (n := 0) (by omega)).mono (by simp)
 | a :: p, h => by
   have := (h a (by simp)).add (hx.mul (lq_eval hx p (fun q hq => h q (by simp [hq]))))
   refine this.mono ?_
   rw [List.length_cons, Nat.succ_mul]
   omega
theorem qw_of {w : World} {u d : Value} {q : Rat} (h : Ws w u (Wd.words q.num.natAbs)) (k : Ws w d (Wd.words q.den)) : Qw w (.agg #[.bool (Wd.ngb q.num), u, d]) q := ⟨_, _, rfl, h, k⟩
theorem sq_lq {k : Nat} {w : World} {v : Value} {qs : List Rat} (h : Sq (Frk k) w v qs) : ∀ q ∈ qs, Wd.Lq q k := by
 intro q hq
 obtain ⟨i, hi, rfl⟩ := List.getElem_of_mem hq
 obtain ⟨A, c, rfl⟩ := h.form
 obtain ⟨_, _, _, _, _, _, _, _, _, _, _, _, _, _, FX⟩ := h.at_ (kp_fr k) hi
 exact Fr.lq FX
set_option maxRecDepth 100000 in
set_option maxHeartbeats 6400000 in
theorem poly_eval {vx v : Value} {x : Rat} {qs : List Rat} {kx ka : Nat} {w : World} (hx : Fr w vx x kx) (h : Sq (Frk ka) w v qs) (hl : qs.length ≤ 100000000) (hk : qs.length * (kx + ka + 1) ≤ 4000000) (hkx : kx ≤ 4000000) (hka : ka ≤ 4000000) : Calls Tryz.prog 33 #[v, vx] w (RetQ (Pq.E qs x) w) := by
 have LXX := hx.lq
 obtain ⟨x0, rfl, ⟨A1, n1, c1, e1⟩, ⟨D1, n2, c2, e2⟩⟩ := (kp_fr kx).form hx
 obtain ⟨s0, u0, d0⟩ := x0
 simp only at e1 e2
 subst e1 e2
 have FC : Fr w (.agg #[.bool s0, .slice A1 n1 c1, .slice D1 n2 c2]) x kx := hx
 clear hx
 have LE : Hid (∀ n, Wd.Lq (Pq.E (qs.drop n) x) 4000002) := Lib.hid (fun n => (lq_eval LXX (ka := ka) (qs.drop n) (fun q hq => sq_lq h q (List.mem_of_mem_drop hq))).mono (by
  have : (qs.drop n).length * (kx + ka + 1) ≤ qs.length * (kx + ka + 1) := Nat.mul_le_mul_right _ (by rw [List.length_drop]; omega)
  omega))
 obtain ⟨A, cv, rfl⟩ := h.form
 have H := Lib.hid h
 clear h hk
 have UP : Up w ((w.alloc (.cells #[.bool s0, .slice A1 n1 c1, .slice D1 n2 c2] 34)).alloc (.cells #[.bool false, .slice none 0 0, .slice none 0 0] 34)) := ((Up.refl w).alloc _).alloc _
 obtain ⟨b0, r0⟩ := bx_two 34 34 w [.bool s0, .slice A1 n1 c1, .slice D1 n2 c2] [.bool false, .slice none 0 0, .slice none 0 0]
 show Calls Tryz.prog 33 #[.slice A qs.length cv, .agg #[.bool s0, .slice A1 n1 c1, .slice D1 n2 c2]] w _
 go_enter Tryz.func33, Tryz.ntmps33
 go_wp2_with fail
 generalize ((w.alloc (.cells #[.bool s0, .slice A1 n1 c1, .slice D1 n2 c2] 34)).alloc (.cells #[.bool false, .slice none 0 0, .slice none 0 0] 34)) = W at *
 replace FC := FC.up UP
 obtain ⟨b0_0, b0_1, b0_2⟩ := b0.c3
 obtain ⟨r0_0, r0_1, r0_2⟩ := r0.c3
 have r0_f0 := r0.free
 go_wp2_with fail
 ((with_reducible refine (frac_of0 _).mono ?_))
 rintro e W1 ⟨V1, rfl, o, u1⟩
 revert UP b0 r0 FC b0_0 b0_1 b0_2 r0_0 r0_1 r0_2
 refine lg10 u1 ?_
 intro UP b0 r0 FC b0_0 b0_1 b0_2 r0_0 r0_1 r0_2
 replace r0_f0 := r0.free
 clear u1
 obtain ⟨P0, HP0⟩ : ∃ P, Hid ((0 : Rat) = P) := ⟨_, Lib.hid rfl⟩
 rw [HP0.out] at o
 obtain ⟨Xo, Yo, rfl, o, od⟩ := o
 obtain ⟨Ao, no, co, rfl⟩ := o.shape
 obtain ⟨Aod, nod, cod, rfl⟩ := od.shape
 have b0_0a := cA b0_0
 have b0_1a := cA b0_1
 have b0_2a := cA b0_2
 have r0_0a := cA r0_0
 have r0_f0a := r0.fa
 have r0_1a := cA r0_1
 have r0_2a := cA r0_2
 go_wp2_with fail
 clear b0_0a b0_1a b0_2a r0_0a r0_f0a r0_1a r0_2a
 have x1 := Bx.new 34 W1 [.bool (Wd.ngb P0.num), .slice Ao no co, .slice Aod nod cod]
 have b0_lt_x1 := b0.lt
 have b0_ne_x1 : ¬ (w.heap.size = W1.heap.size) := by omega
 have b0_en_x1 : ¬ (W1.heap.size = w.heap.size) := by omega
 have r0_lt_x1 := r0.lt
 have r0_ne_x1 : ¬ (w.heap.size + 1 = W1.heap.size) := by omega
 have r0_en_x1 : ¬ (W1.heap.size = w.heap.size + 1) := by omega
 have nu := ((Up.refl W1).alloc (.cells #[.bool (Wd.ngb P0.num), .slice Ao no co, .slice Aod nod cod] 34))
 revert UP b0 r0 FC o od
 revert nu
 refine lh6 ?_
 intro UP b0 r0 FC o od
 generalize (W1.alloc (.cells #[.bool (Wd.ngb P0.num), .slice Ao no co, .slice Aod nod cod] 34)) = W2 at *
 clear b0_0 b0_1 b0_2 r0_0 r0_1 r0_2
 obtain ⟨b0_0, b0_1, b0_2⟩ := b0.c3
 obtain ⟨r0_0, r0_1, r0_2⟩ := r0.c3
 replace r0_f0 := r0.free
 obtain ⟨x1_0, x1_1, x1_2⟩ := x1.c3
 have x1_f0 := x1.free
 go_loopw [6] (fun s6 wr => ∃ (n : Nat) (s' : Bool) (A' D' : Option Addr) (m1 f1 m2 f2 : Nat), s6 = .int .i64 ((n : Int) - 1) ∧ n ≤ qs.length ∧ Bx 34 wr W1.heap.size [.bool s', .slice A' m1 f1, .slice D' m2 f2] ∧ Qw wr (.agg #[.bool s', .slice A' m1 f1, .slice D' m2 f2]) (Pq.E (qs.drop n) x) ∧ Bx 34 wr w.heap.size [.bool s0, .slice A1 n1 c1, .slice D1 n2 c2] ∧ Bx 34 wr (w.heap.size + 1) [.bool false, .slice none 0 0, .slice none 0 0] ∧ Fr wr (.agg #[.bool s0, .slice A1 n1 c1, .slice D1 n2 c2]) x kx ∧ Up w wr) (fun s6 _ => (intOf s6 + 1).toNat)
 case atStart => exact ⟨qs.length, _, _, _, _, _, _, _, rfl, Nat.le_refl _, x1, by rw [List.drop_length, show Pq.E [] x = P0 from HP0.out]; exact ⟨_, _, rfl, o, od⟩, b0, r0, FC, UP⟩
 case round =>
  obtain ⟨n, s', A', D', m1, f1, m2, f2, rfl, hn, x1, X, b0, r0, FC, UP⟩ := hrel
  obtain ⟨b0_0, b0_1, b0_2⟩ := b0.c3
  obtain ⟨r0_0, r0_1, r0_2⟩ := r0.c3
  have r0_f0 := r0.free
  obtain ⟨x1_0, x1_1, x1_2⟩ := x1.c3
  have x1_f0 := x1.free
  cases n with
  | zero =>
    rw [List.drop_zero] at X
    go_wp2_with fail
    exact end_q rfl rfl rfl X r0 trivial trivial trivial UP (by omega)
  | succ m =>
    have hm : m < qs.length := by omega
    obtain ⟨b, o, s, B, m0, f, D, n', f', e0, hb, g1, g2, g3, FX0⟩ := H.out.at_ (kp_fr ka) hm
    subst e0
    have HD : Hid (Pq.E (qs.drop m) x = Pq.E (qs.drop (m + 1)) x * x + qs[m]) := Lib.hid (Pq.E_drop hm x)
    have L1 := LE.out (m + 1)
    have L0 := LE.out m
    generalize qs[m] = q at *
    generalize Pq.E (qs.drop (m + 1)) x = p at *
    have FX0 : Fr w (.agg #[.bool s, .slice B m0 f, .slice D n' f']) q ka := FX0
    have FX := FX0.up UP
    have HOLD : Hid (∀ w', Up w w' → w'.cell? ⟨b, o + m * 3, none⟩ = some (.bool s) ∧ w'.cell? ⟨b, o + m * 3 + 1, none⟩ = some (.slice B m0 f) ∧ w'.cell? ⟨b, o + m * 3 + 2, none⟩ = some (.slice D n' f')) := Lib.hid (fun w' hu => ⟨(hu.cell (p := ⟨b, o + m * 3, none⟩) hb).trans g1, (hu.cell (p := ⟨b, o + m * 3 + 1, none⟩) hb).trans g2, (hu.cell (p := ⟨b, o + m * 3 + 2, none⟩) hb).trans g3⟩)
    clear g1 g2 g3 FX0
    have k1 : (m : Int) < (qs.length : Int) := by omega
    have k0 : (0 : Int) ≤ (m : Int) := by omega
    have kk : ((m : Int)).toNat = m := by omega
    obtain ⟨Y, HY⟩ : ∃ Y, Hid (p * x = Y) := ⟨_, Lib.hid rfl⟩
    have HM := HY
    have LY : Wd.Lq Y (4000002 + kx) := by rw [← HY.out]; exact L1.mul LXX
    obtain ⟨R, HR⟩ : ∃ R, Hid (Y + q = R) := ⟨_, Lib.hid rfl⟩
    have HA := HR
    have HV : Hid (Pq.E (qs.drop m) x = R) := Lib.hid (by rw [HD.out, HY.out, HR.out])
    go_wp2_with fail
    refine li12 (Up.refl wr).drew X FC FX b0 r0 x1 UP b0_0 b0_1 b0_2 r0_0 r0_1 ?_; clear X FC FX b0 r0 x1 UP b0_0 b0_1 b0_2 r0_0 r0_1; intro X FC FX b0 r0 x1 UP b0_0 b0_1 b0_2 r0_0 r0_1; refine li1 (Up.refl wr).drew r0_2 ?_; clear r0_2; intro r0_2
    replace r0_f0 := r0.free
    obtain ⟨x1_0, x1_1, x1_2⟩ := x1.c3
    have x1_f0 := x1.free
    refine wp_region_noPanic ?_
    refine wp_region_held_drew (S := fun w' => Up w w' ∧ w'.cell? ⟨w.heap.size, 0, none⟩ = some (.bool s0) ∧ w'.cell? ⟨w.heap.size, 1, none⟩ = some (.slice A1 n1 c1) ∧ w'.cell? ⟨w.heap.size, 2, none⟩ = some (.slice D1 n2 c2) ∧ w'.cell? ⟨b, o + m * 3, none⟩ = some (.bool s) ∧ w'.cell? ⟨b, o + m * 3 + 1, none⟩ = some (.slice B m0 f) ∧ w'.cell? ⟨b, o + m * 3 + 2, none⟩ = some (.slice D n' f')) (by kernel_rfl) ?_ (fun hHeld => ?_)
    · exact ⟨UP, b0_0, b0_1, b0_2, HOLD.out _ UP⟩
    refine tk 1 ?_
    try simp only [gs, Act.put]
    refine tk 3 ?_
    try simp only [gs, Act.put]
    refine tk 4 ?_
    try simp only [gs, Act.put]
    refine tk 5 ?_
    try simp only [gs, Act.put]
    refine tk 6 ?_
    try simp only [gs, Act.put]
    refine rd 0 (fun K hK => ?_)
    go_simp
    skip
    try go_wp2_with fail
    try clear hHeld
    refine hK.out _ _ ?_ (fun hHeld => ?_)
    · (first | exact ⟨UP, b0_0, b0_1, b0_2, HOLD.out _ UP⟩ | exact ⟨(us (us (us UP))), (cf (cf (cf b0_0))), (cf (cf (cf b0_1))), (cf (cf (cf b0_2))), HOLD.out _ (us (us (us UP)))⟩)
    clear hK K
    try simp only [gs, Act.put]
    refine rd 2 (fun K hK => ?_)
    go_simp
    (first
      | (go_at_call 110
         ((with_reducible refine (frac_mul (X.fr L1) FC (by omega) (by omega)).mono ?_))
         rintro e W51 ⟨V51, rfl, y, u51⟩
         clear x1_0 x1_1 x1_2; revert X FC FX b0 r0 x1 UP b0_0 b0_1 b0_2 r0_0 r0_1; refine lg12 u51 ?_; intro X FC FX b0 r0 x1 UP b0_0 b0_1 b0_2 r0_0 r0_1; revert r0_2; refine lg1 u51 ?_; intro r0_2
         try (replace y := y.up u51)
         try (replace z := z.up u51)
         replace r0_f0 := r0.free
         obtain ⟨x1_0, x1_1, x1_2⟩ := x1.c3
         replace x1_f0 := x1.free
         clear u51
         rw [HM.out] at y
         obtain ⟨Xy, Yy, rfl, y, yd⟩ := y
         obtain ⟨Ay, ny, cy, rfl⟩ := y.shape
         obtain ⟨Ayd, nyd, cyd, rfl⟩ := yd.shape))
    try go_wp2_with fail
    try clear hHeld
    refine hK.out _ _ ?_ (fun hHeld => ?_)
    · exact ⟨UP, b0_0, b0_1, b0_2, HOLD.out _ UP⟩
    clear hK K
    try simp only [gs, Act.put]
    refine rd 7 (fun K hK => ?_)
    go_simp
    (first
      | (go_at_call 109
         ((with_reducible refine (frac_add ((qw_of y yd).fr LY) FX (by omega) (by omega)).mono ?_))
         rintro e W52 ⟨V52, rfl, z, u52⟩
         clear x1_0 x1_1 x1_2; revert X FC FX b0 r0 x1 UP b0_0 b0_1 b0_2 r0_0 r0_1; refine lg12 u52 ?_; intro X FC FX b0 r0 x1 UP b0_0 b0_1 b0_2 r0_0 r0_1; revert r0_2; refine lg1 u52 ?_; intro r0_2
         try (replace y := y.up u52)
         try (replace z := z.up u52)
         replace r0_f0 := r0.free
         obtain ⟨x1_0, x1_1, x1_2⟩ := x1.c3
         replace x1_f0 := x1.free
         clear u52
         rw [HA.out] at z
         obtain ⟨Xz, Yz, rfl, z, zd⟩ := z
         obtain ⟨Az, nz, cz, rfl⟩ := z.shape
         obtain ⟨Azd, nzd, czd, rfl⟩ := zd.shape))
    try go_wp2_with fail
    try clear hHeld
    refine hK.out _ _ ?_ (fun hHeld => ?_)
    · exact ⟨UP, b0_0, b0_1, b0_2, HOLD.out _ UP⟩
    clear hK K
    try simp only [gs, Act.put]
    refine rd 8 (fun K hK => ?_)
    go_simp
    skip
    try go_wp2_with fail
    try clear hHeld
    refine hK.out _ _ ?_ (fun hHeld => ?_)
    · (first | exact ⟨UP, b0_0, b0_1, b0_2, HOLD.out _ UP⟩ | exact ⟨(us (us (us UP))), (cf (cf (cf b0_0))), (cf (cf (cf b0_1))), (cf (cf (cf b0_2))), HOLD.out _ (us (us (us UP)))⟩)
    clear hK K
    try simp only [gs, Act.put]
    refine wpAnyH_done (by kernel_rfl) ?_ _
    refine NoPanic.normal ?_
    clear y X
    have KW : Kw (W52) ((W52).setCell ⟨W1.heap.size, 0, none⟩ (.bool (Wd.ngb R.num))) := Kw.store (c := (.bool s')) x1 rfl trivial _
    refine li4 KW FC FX z zd ?_; clear FC FX z zd; intro FC FX z zd
    replace b0 := b0.fr (W1.heap.size) 0 (.bool (Wd.ngb R.num))
    replace r0 := r0.fr (W1.heap.size) 0 (.bool (Wd.ngb R.num))
    replace x1 : Bx 34 ((W52).setCell ⟨W1.heap.size, 0, none⟩ (.bool (Wd.ngb R.num))) (W1.heap.size) [.bool (Wd.ngb R.num), .slice A' m1 f1, .slice D' m2 f2] := x1.set 0 (.bool (Wd.ngb R.num))
    replace UP := UP.setCell (p := ⟨W1.heap.size, 0, none⟩) (by dsimp only; omega) (.bool (Wd.ngb R.num))
    have KW : Kw (((W52).setCell ⟨W1.heap.size, 0, none⟩ (.bool (Wd.ngb R.num)))) ((((W52).setCell ⟨W1.heap.size, 0, none⟩ (.bool (Wd.ngb R.num)))).setCell ⟨W1.heap.size, 1, none⟩ (.slice Az nz cz)) := Kw.store (c := (.slice A' m1 f1)) x1 rfl trivial _
    revert FC FX z zd; refine lg4 KW ?_; intro FC FX z zd
    replace b0 := b0.fr (W1.heap.size) 1 (.slice Az nz cz)
    replace r0 := r0.fr (W1.heap.size) 1 (.slice Az nz cz)
    replace x1 : Bx 34 ((((W52).setCell ⟨W1.heap.size, 0, none⟩ (.bool (Wd.ngb R.num)))).setCell ⟨W1.heap.size, 1, none⟩ (.slice Az nz cz)) (W1.heap.size) [.bool (Wd.ngb R.num), .slice Az nz cz, .slice D' m2 f2] := x1.set 1 (.slice Az nz cz)
    replace UP := UP.setCell (p := ⟨W1.heap.size, 1, none⟩) (by dsimp only; omega) (.slice Az nz cz)
    have KW : Kw (((((W52).setCell ⟨W1.heap.size, 0, none⟩ (.bool (Wd.ngb R.num)))).setCell ⟨W1.heap.size, 1, none⟩ (.slice Az nz cz))) ((((((W52).setCell ⟨W1.heap.size, 0, none⟩ (.bool (Wd.ngb R.num)))).setCell ⟨W1.heap.size, 1, none⟩ (.slice Az nz cz))).setCell ⟨W1.heap.size, 2, none⟩ (.slice Azd nzd czd)) := Kw.store (c := (.slice D' m2 f2)) x1 rfl trivial _
    revert FC FX z zd; refine lg4 KW ?_; intro FC FX z zd
    replace b0 := b0.fr (W1.heap.size) 2 (.slice Azd nzd czd)
    replace r0 := r0.fr (W1.heap.size) 2 (.slice Azd nzd czd)
    replace x1 : Bx 34 ((((((W52).setCell ⟨W1.heap.size, 0, none⟩ (.bool (Wd.ngb R.num)))).setCell ⟨W1.heap.size, 1, none⟩ (.slice Az nz cz))).setCell ⟨W1.heap.size, 2, none⟩ (.slice Azd nzd czd)) (W1.heap.size) [.bool (Wd.ngb R.num), .slice Az nz cz, .slice Azd nzd czd] := x1.set 2 (.slice Azd nzd czd)
    replace UP := UP.setCell (p := ⟨W1.heap.size, 2, none⟩) (by dsimp only; omega) (.slice Azd nzd czd)
    clear KW
    generalize ((((((W52).setCell ⟨W1.heap.size, 0, none⟩ (.bool (Wd.ngb R.num)))).setCell ⟨W1.heap.size, 1, none⟩ (.slice Az nz cz))).setCell ⟨W1.heap.size, 2, none⟩ (.slice Azd nzd czd)) = W53 at *
    clear b0_0 b0_1 b0_2 r0_0 r0_1 r0_2 x1_0 x1_1 x1_2
    obtain ⟨b0_0, b0_1, b0_2⟩ := b0.c3
    obtain ⟨r0_0, r0_1, r0_2⟩ := r0.c3
    replace r0_f0 := r0.free
    obtain ⟨x1_0, x1_1, x1_2⟩ := x1.c3
    go_wp2_with fail
    go_roundw
    case rel => exact ⟨m, _, _, _, _, _, _, _, by first | rfl | go_num | (congr 1; omega), by omega, x1, by rw [HV.out]; exact ⟨_, _, rfl, z, zd⟩, b0, r0, FC, UP⟩
    case measure => simp [intOf] <;> omega
end Go.Proofs.YtmmcffceeahemaaGreat
namespace Pq
/-- Each one so many times as its place says. -/
def dfl : Nat → List Rat → List Rat
 | _, [] => []
 | k, a :: p => (k : Rat) * a :: dfl (k + 1) p
theorem dfl_len : ∀ (p : List Rat) (k : Nat), (dfl k p).length = p.length
 | [], _ => rfl
 | a :: p, k => by simp [dfl, dfl_len p]
theorem dfl_snoc : ∀ (p : List Rat) (k : Nat) (b : Rat), dfl k (p ++ [b]) = dfl k p ++ [((k + p.length : Nat) : Rat) * b]
 | [], k, b => by simp [dfl]
 | a :: p, k, b => by
   simp only [List.cons_append, dfl, dfl_snoc p (k + 1) b, List.length_cons]
   rw [show k + 1 + p.length = k + (p.length + 1) by omega]
theorem E_dfl : ∀ (p : List Rat) (k : Nat) (x : Rat), E (dfl k p) x = (k : Rat) * E p x + x * D p x
 | [], k, x => by
   simp only [dfl, E, D, Rat.mul_zero]
   exact (Rat.add_zero 0).symm
 | a :: p, k, x => by
   show (k : Rat) * a + x * E (dfl (k + 1) p) x = (k : Rat) * (a + x * E p x) + x * (E p x + x * D p x)
   rw [E_dfl p (k + 1) x]
   have : ((k + 1 : Nat) : Rat) = (k : Rat) + 1 := by push_cast; rfl
   rw [this]
   grind
/-- The derivative. -/
def df (p : List Rat) : List Rat := dfl 1 p.tail
theorem E_df (p : List Rat) (x : Rat) : E (df p) x = D p x := by
 unfold df
 rw [E_dfl]
 cases p with
 | nil =>
   simp only [List.tail_nil, E, D, Rat.mul_zero]
   exact Rat.add_zero 0
 | cons a p =>
   show ((1 : Nat) : Rat) * E p x + x * D p x = E p x + x * D p x
   have : ((1 : Nat) : Rat) = 1 := rfl
   rw [this, Rat.one_mul]
theorem df_len (p : List Rat) : (df p).length = p.length - 1 := by unfold df; rw [dfl_len, List.length_tail]
theorem df_step {p : List Rat} {j : Nat} (h : j + 1 < p.length) : dfl 1 (p.tail.take (j + 1)) = dfl 1 (p.tail.take j) ++ [(((j : Int) + 1 : Int) : Rat) * p[j + 1]] := by
 have hj : j < p.tail.length := by rw [List.length_tail]; omega
 rw [List.take_succ_eq_append_getElem hj, dfl_snoc, List.length_take, Nat.min_eq_left (by omega), List.getElem_tail]
 have : (((j : Int) + 1 : Int) : Rat) = ((1 + j : Nat) : Rat) := by rw [show (j : Int) + 1 = ((1 + j : Nat) : Int) by omega]; rfl
 rw [this]
end Pq
namespace Go.Proofs.YtmmcffceeahemaaGreat
open Go.RowKit
set_option maxRecDepth 100000 in
set_option maxHeartbeats 6400000 in
theorem poly_diff {v : Value} {qs : List Rat} {ka : Nat} {w : World} (h : Sq (Frk ka) w v qs) (hl : qs.length ≤ 100000000) (hka : ka ≤ 4000000) : Calls Tryz.prog 44 #[v] w (RetP (ka + 4) (Pq.nm (Pq.df qs)) w) := by
 obtain ⟨A, cv, rfl⟩ := h.form
 have LA := Lib.hid (sq_lq h)
 have H := Lib.hid h
 clear h
 go_enter Tryz.func44, Tryz.ntmps44
 go_wp2_with fail
 go_loopw [3, 4] (fun s3 s4 wr => ∃ j : Nat, s4 = .int .i64 ((j : Int) + 1) ∧ j ≤ qs.length - 1 ∧ PRow (ka + 2) w wr s3 (Pq.dfl 1 (qs.tail.take j)) ∧ Up w wr) (fun _ s4 _ => qs.length - (intOf s4).toNat)
 case atStart => exact ⟨0, rfl, Nat.zero_le _, OwnQ.nil _ _ _ _, Up.refl w⟩
 case round =>
  obtain ⟨j, rfl, hj, MR, UP⟩ := hrel
  by_cases hlt : j + 1 < qs.length
  · obtain ⟨b, o, s, B, m0, f, D, n', f', e0, hb, g1, g2, g3, FX0⟩ := H.out.at_ (kp_fr ka) hlt
    subst e0
    have HTK : Hid _ := Lib.hid (Pq.df_step hlt)
    have HTL : Hid ((Pq.dfl 1 (qs.tail.take j)).length = j) := Lib.hid (by rw [Pq.dfl_len, List.length_take, List.length_tail]; omega)
    have LQ := LA.out qs[j + 1] (List.getElem_mem hlt)
    generalize qs[j + 1] = q at *
    have FX0 : Fr w (.agg #[.bool s, .slice B m0 f, .slice D n' f']) q ka := FX0
    have FX := FX0.up UP
    have HOLD : Hid (∀ w', Up w w' → w'.cell? ⟨b, o + (j + 1) * 3, none⟩ = some (.bool s) ∧ w'.cell? ⟨b, o + (j + 1) * 3 + 1, none⟩ = some (.slice B m0 f) ∧ w'.cell? ⟨b, o + (j + 1) * 3 + 2, none⟩ = some (.slice D n' f')) := Lib.hid (fun w' hu => ⟨(hu.cell (p := ⟨b, o + (j + 1) * 3, none⟩) hb).trans g1, (hu.cell (p := ⟨b, o + (j + 1) * 3 + 1, none⟩) hb).trans g2, (hu.cell (p := ⟨b, o + (j + 1) * 3 + 2, none⟩) hb).trans g3⟩)
    clear g1 g2 g3 FX0
    obtain ⟨C7, c7, rfl⟩ := MR.form
    rw [HTL.out] at MR ⊢
    have k1 : (j : Int) + 1 < (qs.length : Int) := by omega
    have k0 : (0 : Int) ≤ (j : Int) + 1 := by omega
    have kk : ((j : Int) + 1).toNat = j + 1 := by omega
    go_wp2_with fail
    refine li3 (Up.refl wr).drew MR FX UP ?_; clear MR FX UP; intro MR FX UP
    refine wp_region_noPanic ?_
    refine wp_region_held_drew (S := fun w' => Up w w' ∧ w'.cell? ⟨b, o + (j + 1) * 3, none⟩ = some (.bool s) ∧ w'.cell? ⟨b, o + (j + 1) * 3 + 1, none⟩ = some (.slice B m0 f) ∧ w'.cell? ⟨b, o + (j + 1) * 3 + 2, none⟩ = some (.slice D n' f')) (by kernel_rfl) (by exact ⟨UP, HOLD.out _ UP⟩) (fun hHeld => ?_)
    generalize wr.drew = W0 at *
    refine tk 0 ?_
    try simp only [gs, Act.put]
    refine tk 1 ?_
    try simp only [gs, Act.put]
    refine tk 3 ?_
    try simp only [gs, Act.put]
    refine tk 4 ?_
    try simp only [gs, Act.put]
    refine tk 5 ?_
    try simp only [gs, Act.put]
    refine tk 6 ?_
    try simp only [gs, Act.put]
    refine rd 2 (fun K hK => ?_)
    clear hHeld
    go_simp
    go_at_call 90
    refine (frac_of (n := (j : Int) + 1) (by omega) _).mono ?_
    rintro e W1 ⟨V1, rfl, y, u1⟩
    refine li3 u1 MR FX UP ?_; clear MR FX UP u1; intro MR FX UP
    have LY := lq_int (n := (j : Int) + 1) (by omega)
    obtain ⟨Y, HY⟩ : ∃ Y, Hid ((((j : Int) + 1 : Int) : Rat) = Y) := ⟨_, Lib.hid rfl⟩
    rw [HY.out] at y LY HTK
    obtain ⟨Xy, Yy, rfl, y, yd⟩ := y
    obtain ⟨Ay, ny, cy, rfl⟩ := y.shape
    obtain ⟨Ayd, nyd, cyd, rfl⟩ := yd.shape
    try go_wp2_with fail
    refine hK.out _ _ (by exact ⟨UP, HOLD.out _ UP⟩) (fun hHeld => ?_)
    clear hK K
    try simp only [gs, Act.put]
    refine rd 7 (fun K hK => ?_)
    clear hHeld
    go_simp
    go_at_call 110
    refine (frac_mul ((qw_of y yd).fr LY) FX (by omega) (by omega)).mono ?_
    rintro e W2 ⟨V2, rfl, z, u2⟩
    revert MR UP; refine lg2 u2 ?_; intro MR UP
    clear u2 y yd FX
    have LZ : Wd.Lq (Y * q) (ka + 2) := (LY.mul LQ).mono (by omega)
    obtain ⟨Z, HZ⟩ : ∃ Z, Hid (Y * q = Z) := ⟨_, Lib.hid rfl⟩
    rw [HZ.out] at z LZ HTK
    obtain ⟨Xz, Yz, rfl, z, zd⟩ := z
    obtain ⟨Az, nz, cz, rfl⟩ := z.shape
    obtain ⟨Azd, nzd, czd, rfl⟩ := zd.shape
    try go_wp2_with fail
    refine hK.out _ _ (by exact ⟨UP, HOLD.out _ UP⟩) (fun hHeld => ?_)
    clear hK K
    try simp only [gs, Act.put]
    refine rd 8 (fun K hK => ?_)
    clear hHeld
    go_simp
    have hblk := heap_alloc_new W2 (.cells #[.bool (Wd.ngb Z.num), .slice Az nz cz, .slice Azd nzd czd] 34)
    have HQ := Lib.hid (show Qk (ka + 2) (W2.alloc (.cells #[.bool (Wd.ngb Z.num), .slice Az nz cz, .slice Azd nzd czd] 34)) (.agg #[.bool (Wd.ngb Z.num), .slice Az nz cz, .slice Azd nzd czd]) Z from ⟨Qw.up ⟨_, _, rfl, z, zd⟩ ((Up.refl W2).alloc _), LZ⟩)
    replace MR := MR.up ((Up.refl W2).alloc (.cells #[.bool (Wd.ngb Z.num), .slice Az nz cz, .slice Azd nzd czd] 34))
    replace UP := UP.alloc (.cells #[.bool (Wd.ngb Z.num), .slice Az nz cz, .slice Azd nzd czd] 34)
    generalize W2.alloc (.cells #[.bool (Wd.ngb Z.num), .slice Az nz cz, .slice Azd nzd czd] 34) = W3 at *
    generalize W2.heap.size = g3 at *
    refine hK.out _ _ (by exact ⟨UP, HOLD.out _ UP⟩) (fun hHeld => ?_)
    clear hK K
    try simp only [gs, Act.put]
    refine rd 9 (fun K hK => ?_)
    clear hHeld
    refine step_append_q (kp_qk _) Tryz.underlying49 info_frac (w0 := w) (by rfl) _ _ (by rfl) (by rfl) MR UP (by rfl) hblk HQ.out (by rw [HTL.out]; omega) ?_
    intro V8 W8 MR8 K8 G8 UP8
    rw [← HTK.out] at MR8
    refine hK.out _ _ (by exact ⟨UP8, HOLD.out _ UP8⟩) (fun hHeld => ?_)
    clear hK K
    try simp only [gs, Act.put]
    refine tk 10 ?_
    try simp only [gs, Act.put]
    refine wpAnyH_done (by decide +kernel) (NoPanic.normal ?_) _
    clear hHeld hblk
    go_wp2
    go_roundw
    case rel => exact ⟨j + 1, by go_num, by omega, MR8, UP8⟩
    case measure => simp [intOf]; omega
  · have HDF : Hid (Pq.dfl 1 (qs.tail.take j) = Pq.df qs) := Lib.hid (by unfold Pq.df; rw [List.take_of_length_le]; rw [List.length_tail]; omega)
    rw [HDF.out] at MR
    have k1 : ¬ (j : Int) + 1 < (qs.length : Int) := by omega
    have hd1 : (Pq.df qs).length ≤ 100000000 := by rw [Pq.df_len]; omega
    obtain ⟨C7, c7, rfl⟩ := MR.form
    go_wp2_with fail
    refine (poly_norm MR.fr hd1 (by omega)).mono ?_
    rintro e W4 ⟨V4, rfl, R, u4⟩
    go_wp2
    go_ret
    exact ⟨_, rfl, R.weaken UP, UP.trans u4⟩
end Go.Proofs.YtmmcffceeahemaaGreat
