/-
  Layer 14, the document's answers: values, products.
-/
import Derived.Test.YtmmcffceeahemaaGreatZtRefPoly5
import Derived.Test.YtmmcffceeahemaaGreatZtShort
set_option linter.unusedVariables false
set_option linter.unusedSimpArgs false
namespace Go.Proofs.YtmmcffceeahemaaGreat
open Go.RowKit
theorem ref9_int1p (w : World) : Calls Tryz.prog 65 #[.int .i64 1] w (RetQ 1 w) := ref9_int (n := 1) (by omega) w
set_option maxRecDepth 100000 in
set_option maxHeartbeats 6400000 in
theorem ref_eval14 {vx v : Value} {x : Rat} {qs : List Rat} {kx ka : Nat} {w : World} (hx : Qk kx w vx x) (h : QSq ka w v qs) (hl : qs.length ≤ 100) (hkx : kx ≤ 4000) (hka : ka ≤ 4000) : Calls Tryz.prog 34 #[v, vx] w (RetQ (Pq.E qs x) w) := by
 have LXX := hx.lq
 have LA := Lib.hid h.lq
 obtain ⟨Xc, Yc, rfl, hcu, hcd⟩ := hx.qw
 obtain ⟨A1, n1, c1, rfl⟩ := hcu.shape
 obtain ⟨A2, n2, c2, rfl⟩ := hcd.shape
 clear hx
 have LE : Hid (∀ n, Wd.Lq (Pq.E (qs.take n) x) 800102) := Lib.hid (fun n => (lq_eval LXX (ka := ka) (qs.take n) (fun q hq => LA.out q (List.mem_of_mem_take hq))).mono (by
  have : (qs.take n).length * (kx + ka + 1) ≤ 100 * (kx + ka + 1) := Nat.mul_le_mul_right _ (by rw [List.length_take]; omega)
  omega))
 have LW : Hid (∀ n, n ≤ 100 → Wd.Lq (x ^ n) 400001) := Lib.hid (fun n hn => (LXX.pow n).mono (by
  have : kx * n ≤ 4000 * 100 := Nat.mul_le_mul hkx hn
  omega))
 obtain ⟨A, cv, rfl⟩ := h.form
 have H := Lib.hid h
 clear h
 have UP : Up w ((w.alloc (.cells #[.bool (Wd.ngb x.num), .slice A1 n1 c1, .slice A2 n2 c2] 24)).alloc (.cells #[.bool false, .slice none 0 0, .slice none 0 0] 24)) := ((Up.refl w).alloc _).alloc _
 obtain ⟨b0, r0⟩ := bx_two 24 24 w [.bool (Wd.ngb x.num), .slice A1 n1 c1, .slice A2 n2 c2] [.bool false, .slice none 0 0, .slice none 0 0]
 go_enter Tryz.func34, Tryz.ntmps34
 go_wp2_with fail
 generalize ((w.alloc (.cells #[.bool (Wd.ngb x.num), .slice A1 n1 c1, .slice A2 n2 c2] 24)).alloc (.cells #[.bool false, .slice none 0 0, .slice none 0 0] 24)) = W at *
 revert hcu hcd
 refine lg2 UP ?_
 intro hcu hcd
 obtain ⟨b0_0, b0_1, b0_2⟩ := b0.c3
 obtain ⟨r0_0, r0_1, r0_2⟩ := r0.c3
 have r0_f0 := r0.free
 go_wp2_with fail
 ((with_reducible refine (ref9_int0p _).mono ?_))
 rintro e W1 ⟨V1, rfl, o, u1⟩
 revert UP b0 r0 hcu hcd b0_0 b0_1 b0_2 r0_0 r0_1 r0_2
 refine lg11 u1 ?_
 intro UP b0 r0 hcu hcd b0_0 b0_1 b0_2 r0_0 r0_1 r0_2
 replace r0_f0 := r0.free
 clear u1
 obtain ⟨P0, HP0⟩ : ∃ P, Hid ((0 : Rat) = P) := ⟨_, Lib.hid rfl⟩
 rw [HP0.out] at o
 obtain ⟨Xo, Yo, rfl, o, od⟩ := o
 obtain ⟨Ao, no, co, rfl⟩ := o.shape
 obtain ⟨Aod, nod, cod, rfl⟩ := od.shape
 have b0_0a := cA b0_0
 have b0_1a := cA b0_1
 have b0_2a := cA b0_2
 have r0_0a := cA r0_0
 have r0_f0a := r0.fa
 have r0_1a := cA r0_1
 have r0_2a := cA r0_2
 go_wp2_with fail
 clear b0_0a b0_1a b0_2a r0_0a r0_f0a r0_1a r0_2a
 have x5 := Bx.new 24 W1 [.bool (Wd.ngb P0.num), .slice Ao no co, .slice Aod nod cod]
 have b0_lt_x5 := b0.lt
 have b0_ne_x5 : ¬ (w.heap.size = W1.heap.size) := by omega
 have b0_en_x5 : ¬ (W1.heap.size = w.heap.size) := by omega
 have r0_lt_x5 := r0.lt
 have r0_ne_x5 : ¬ (w.heap.size + 1 = W1.heap.size) := by omega
 have r0_en_x5 : ¬ (W1.heap.size = w.heap.size + 1) := by omega
 have nu := ((Up.refl W1).alloc (.cells #[.bool (Wd.ngb P0.num), .slice Ao no co, .slice Aod nod cod] 24))
 revert UP b0 r0 hcu hcd o od
 revert nu
 refine lh7 ?_
 intro UP b0 r0 hcu hcd o od
 generalize (W1.alloc (.cells #[.bool (Wd.ngb P0.num), .slice Ao no co, .slice Aod nod cod] 24)) = W2 at *
 clear b0_0 b0_1 b0_2 r0_0 r0_1 r0_2
 obtain ⟨b0_0, b0_1, b0_2⟩ := b0.c3
 obtain ⟨r0_0, r0_1, r0_2⟩ := r0.c3
 replace r0_f0 := r0.free
 obtain ⟨x5_0, x5_1, x5_2⟩ := x5.c3
 have x5_f0 := x5.free
 ((with_reducible refine (ref9_int1p _).mono ?_))
 rintro e W3 ⟨V3, rfl, i, u3⟩
 clear x5_0 x5_1 x5_2
 revert x5 UP b0 r0 hcu hcd o od b0_0 b0_1 b0_2 r0_0
 refine lg12 u3 ?_
 intro x5 UP b0 r0 hcu hcd o od b0_0 b0_1 b0_2 r0_0
 revert r0_1 r0_2
 refine lg2 u3 ?_
 intro r0_1 r0_2
 replace r0_f0 := r0.free
 obtain ⟨x5_0, x5_1, x5_2⟩ := x5.c3
 replace x5_f0 := x5.free
 clear u3
 obtain ⟨P1, HP1⟩ : ∃ P, Hid ((1 : Rat) = P) := ⟨_, Lib.hid rfl⟩
 rw [HP1.out] at i
 obtain ⟨Xi, Yi, rfl, i, id⟩ := i
 obtain ⟨Ai, ni, ci, rfl⟩ := i.shape
 obtain ⟨Aid, nid, cid, rfl⟩ := id.shape
 have b0_0a := cA b0_0
 have b0_1a := cA b0_1
 have b0_2a := cA b0_2
 have r0_0a := cA r0_0
 have r0_f0a := r0.fa
 have r0_1a := cA r0_1
 have r0_2a := cA r0_2
 have x5_0a := cA x5_0
 have x5_f0a := x5.fa
 have x5_1a := cA x5_1
 have x5_2a := cA x5_2
 go_wp2_with fail
 clear b0_0a b0_1a b0_2a r0_0a r0_f0a r0_1a r0_2a x5_0a x5_f0a x5_1a x5_2a
 have x6 := Bx.new 24 W3 [.bool (Wd.ngb P1.num), .slice Ai ni ci, .slice Aid nid cid]
 have b0_lt_x6 := b0.lt
 have b0_ne_x6 : ¬ (w.heap.size = W3.heap.size) := by omega
 have b0_en_x6 : ¬ (W3.heap.size = w.heap.size) := by omega
 have r0_lt_x6 := r0.lt
 have r0_ne_x6 : ¬ (w.heap.size + 1 = W3.heap.size) := by omega
 have r0_en_x6 : ¬ (W3.heap.size = w.heap.size + 1) := by omega
 have x5_lt_x6 := x5.lt
 have x5_ne_x6 : ¬ (W1.heap.size = W3.heap.size) := by omega
 have x5_en_x6 : ¬ (W3.heap.size = W1.heap.size) := by omega
 have nu := ((Up.refl W3).alloc (.cells #[.bool (Wd.ngb P1.num), .slice Ai ni ci, .slice Aid nid cid] 24))
 revert x5 UP b0 r0 hcu hcd o od i id
 revert nu
 refine lh10 ?_
 intro x5 UP b0 r0 hcu hcd o od i id
 generalize (W3.alloc (.cells #[.bool (Wd.ngb P1.num), .slice Ai ni ci, .slice Aid nid cid] 24)) = W4 at *
 clear b0_0 b0_1 b0_2 r0_0 r0_1 r0_2 x5_0 x5_1 x5_2
 obtain ⟨b0_0, b0_1, b0_2⟩ := b0.c3
 obtain ⟨r0_0, r0_1, r0_2⟩ := r0.c3
 replace r0_f0 := r0.free
 obtain ⟨x5_0, x5_1, x5_2⟩ := x5.c3
 replace x5_f0 := x5.free
 obtain ⟨x6_0, x6_1, x6_2⟩ := x6.c3
 have x6_f0 := x6.free
 go_loopw [7] (fun s7 wr => ∃ (j : Nat) (s' t' : Bool) (A' D' B' E' : Option Addr) (m1 f1 m2 f2 m3 f3 m4 f4 : Nat), s7 = .int .i64 (j : Int) ∧ j ≤ qs.length ∧ Bx 24 wr W1.heap.size [.bool s', .slice A' m1 f1, .slice D' m2 f2] ∧ Qw wr (.agg #[.bool s', .slice A' m1 f1, .slice D' m2 f2]) (Pq.E (qs.take j) x) ∧ Bx 24 wr W3.heap.size [.bool t', .slice B' m3 f3, .slice E' m4 f4] ∧ Qw wr (.agg #[.bool t', .slice B' m3 f3, .slice E' m4 f4]) (x ^ j) ∧ Bx 24 wr w.heap.size [.bool (Wd.ngb x.num), .slice A1 n1 c1, .slice A2 n2 c2] ∧ Bx 24 wr (w.heap.size + 1) [.bool false, .slice none 0 0, .slice none 0 0] ∧ Ws wr (.slice A1 n1 c1) (Wd.words x.num.natAbs) ∧ Ws wr (.slice A2 n2 c2) (Wd.words x.den) ∧ Up w wr) (fun s7 _ => qs.length - (intOf s7).toNat)
 case atStart => exact ⟨0, _, _, _, _, _, _, _, _, _, _, _, _, _, _, rfl, Nat.zero_le _, x5, by rw [List.take_zero, show Pq.E [] x = P0 from HP0.out]; exact ⟨_, _, rfl, o, od⟩, x6, by rw [Rat.pow_zero, HP1.out]; exact ⟨_, _, rfl, i, id⟩, b0, r0, hcu, hcd, UP⟩
 case round =>
  obtain ⟨j, s', t', A', D', B', E', m1, f1, m2, f2, m3, f3, m4, f4, rfl, hn, x5, X, x6, PW, b0, r0, hcu, hcd, UP⟩ := hrel
  obtain ⟨b0_0, b0_1, b0_2⟩ := b0.c3
  obtain ⟨r0_0, r0_1, r0_2⟩ := r0.c3
  have r0_f0 := r0.free
  obtain ⟨x5_0, x5_1, x5_2⟩ := x5.c3
  have x5_f0 := x5.free
  obtain ⟨x6_0, x6_1, x6_2⟩ := x6.c3
  have x6_f0 := x6.free
  by_cases hlt : j < qs.length
  · obtain ⟨b, o, s, B, m0, f, D, n', f', e0, hb, g1, g2, g3, FX0⟩ := Sq.at_ (kp_qk ka) H.out.sq hlt
    subst e0
    have HD : Hid (Pq.E (qs.take (j + 1)) x = Pq.E (qs.take j) x + qs[j] * x ^ j) := Lib.hid (by rw [Pq.E_take_succ hlt, Rat.mul_comm (qs[j])])
    have HPS : Hid (x ^ (j + 1) = x ^ j * x) := Lib.hid (Rat.pow_succ _ _)
    have L1 := LE.out j
    have LPW := LW.out j (by omega)
    have LQ := LA.out qs[j] (List.getElem_mem hlt)
    generalize qs[j] = q at *
    generalize Pq.E (qs.take j) x = p at *
    generalize x ^ j = y at *
    have FX0 : Qk ka w (.agg #[.bool s, .slice B m0 f, .slice D n' f']) q := FX0
    have FX := FX0.qw.up UP
    have HOLD : Hid (∀ w', Up w w' → w'.cell? ⟨b, o + j * 3, none⟩ = some (.bool s) ∧ w'.cell? ⟨b, o + j * 3 + 1, none⟩ = some (.slice B m0 f) ∧ w'.cell? ⟨b, o + j * 3 + 2, none⟩ = some (.slice D n' f')) := Lib.hid (fun w' hu => ⟨hu.keeps g1, hu.keeps g2, hu.keeps g3⟩)
    clear g1 g2 g3 FX0
    have k1 : (j : Int) < (qs.length : Int) := by omega
    have k0 : (0 : Int) ≤ (j : Int) := by omega
    have kk : ((j : Int)).toNat = j := by omega
    obtain ⟨Y, HY⟩ : ∃ Y, Hid (q * y = Y) := ⟨_, Lib.hid rfl⟩
    have LY : Wd.Lq Y (ka + 400001) := by rw [← HY.out]; exact LQ.mul LPW
    obtain ⟨R, HR⟩ : ∃ R, Hid (p + Y = R) := ⟨_, Lib.hid rfl⟩
    have HV : Hid (Pq.E (qs.take (j + 1)) x = R) := Lib.hid (by rw [HD.out, HY.out, HR.out])
    obtain ⟨N, HN⟩ : ∃ N, Hid (y * x = N) := ⟨_, Lib.hid rfl⟩
    rw [HN.out] at HPS
    go_wp2_with fail
    obtain ⟨d1, d2, d3⟩ := HOLD.out _ UP
    clear x6_0 x6_1 x6_2; refine li12 (Up.refl wr).drew X PW hcu hcd FX b0 r0 x5 x6 UP b0_0 b0_1 ?_; clear X PW hcu hcd FX b0 r0 x5 x6 UP b0_0 b0_1; intro X PW hcu hcd FX b0 r0 x5 x6 UP b0_0 b0_1; refine li4 (Up.refl wr).drew b0_2 r0_0 r0_1 r0_2 ?_; clear b0_2 r0_0 r0_1 r0_2; intro b0_2 r0_0 r0_1 r0_2
    replace r0_f0 := r0.free
    obtain ⟨x5_0, x5_1, x5_2⟩ := x5.c3
    have x5_f0 := x5.free
    obtain ⟨x6_0, x6_1, x6_2⟩ := x6.c3
    replace x6_f0 := x6.free
    go_region_with ((first
     | (go_at_call 57
        ((with_reducible refine (ref9_mul FX PW LQ LPW (by omega) (by omega)).mono ?_))
        rintro e W51 ⟨V51, rfl, ym, u51⟩
        clear x5_0 x5_1 x5_2 x6_0 x6_1 x6_2; revert X PW hcu hcd FX b0 r0 x5 x6 UP b0_0 b0_1; refine lg12 u51 ?_; intro X PW hcu hcd FX b0 r0 x5 x6 UP b0_0 b0_1; revert b0_2 r0_0 r0_1 r0_2; refine lg4 u51 ?_; intro b0_2 r0_0 r0_1 r0_2
        try (replace ym := ym.up u51)
        try (replace z := z.up u51)
        replace r0_f0 := r0.free
        obtain ⟨x5_0, x5_1, x5_2⟩ := x5.c3
        replace x5_f0 := x5.free
        obtain ⟨x6_0, x6_1, x6_2⟩ := x6.c3
        replace x6_f0 := x6.free
        clear u51
        rw [HY.out] at ym)
     | (go_at_call 111
        ((with_reducible refine (ref9_add X ym L1 LY (by omega) (by omega)).mono ?_))
        rintro e W52 ⟨V52, rfl, z, u52⟩
        clear x5_0 x5_1 x5_2 x6_0 x6_1 x6_2; revert X PW hcu hcd FX b0 r0 x5 x6 UP b0_0 b0_1; refine lg12 u52 ?_; intro X PW hcu hcd FX b0 r0 x5 x6 UP b0_0 b0_1; revert b0_2 r0_0 r0_1 r0_2; refine lg4 u52 ?_; intro b0_2 r0_0 r0_1 r0_2
        try (replace ym := ym.up u52)
        try (replace z := z.up u52)
        replace r0_f0 := r0.free
        obtain ⟨x5_0, x5_1, x5_2⟩ := x5.c3
        replace x5_f0 := x5.free
        obtain ⟨x6_0, x6_1, x6_2⟩ := x6.c3
        replace x6_f0 := x6.free
        clear u52
        rw [HR.out] at z
        obtain ⟨Xz, Yz, rfl, z, zd⟩ := z
        obtain ⟨Az, nz, cz, rfl⟩ := z.shape
        obtain ⟨Azd, nzd, czd, rfl⟩ := zd.shape)))
    all_goals
     clear d1 d2 d3
     clear ym X FX
     have KW : Kw (W52) ((W52).setCell ⟨W1.heap.size, 0, none⟩ (.bool (Wd.ngb R.num))) := Kw.store (c := (.bool s')) x5 rfl trivial _
     refine li5 KW PW hcu hcd z zd ?_; clear PW hcu hcd z zd; intro PW hcu hcd z zd
     replace b0 := b0.fr (W1.heap.size) 0 (.bool (Wd.ngb R.num))
     replace r0 := r0.fr (W1.heap.size) 0 (.bool (Wd.ngb R.num))
     replace x6 := x6.fr (W1.heap.size) 0 (.bool (Wd.ngb R.num))
     replace x5 : Bx 24 ((W52).setCell ⟨W1.heap.size, 0, none⟩ (.bool (Wd.ngb R.num))) (W1.heap.size) [.bool (Wd.ngb R.num), .slice A' m1 f1, .slice D' m2 f2] := x5.set 0 (.bool (Wd.ngb R.num))
     replace UP := UP.setCell (p := ⟨W1.heap.size, 0, none⟩) (by dsimp only; omega) (.bool (Wd.ngb R.num))
     have KW : Kw (((W52).setCell ⟨W1.heap.size, 0, none⟩ (.bool (Wd.ngb R.num)))) ((((W52).setCell ⟨W1.heap.size, 0, none⟩ (.bool (Wd.ngb R.num)))).setCell ⟨W1.heap.size, 1, none⟩ (.slice Az nz cz)) := Kw.store (c := (.slice A' m1 f1)) x5 rfl trivial _
     revert PW hcu hcd z zd; refine lg5 KW ?_; intro PW hcu hcd z zd
     replace b0 := b0.fr (W1.heap.size) 1 (.slice Az nz cz)
     replace r0 := r0.fr (W1.heap.size) 1 (.slice Az nz cz)
     replace x6 := x6.fr (W1.heap.size) 1 (.slice Az nz cz)
     replace x5 : Bx 24 ((((W52).setCell ⟨W1.heap.size, 0, none⟩ (.bool (Wd.ngb R.num)))).setCell ⟨W1.heap.size, 1, none⟩ (.slice Az nz cz)) (W1.heap.size) [.bool (Wd.ngb R.num), .slice Az nz cz, .slice D' m2 f2] := x5.set 1 (.slice Az nz cz)
     replace UP := UP.setCell (p := ⟨W1.heap.size, 1, none⟩) (by dsimp only; omega) (.slice Az nz cz)
     have KW : Kw (((((W52).setCell ⟨W1.heap.size, 0, none⟩ (.bool (Wd.ngb R.num)))).setCell ⟨W1.heap.size, 1, none⟩ (.slice Az nz cz))) ((((((W52).setCell ⟨W1.heap.size, 0, none⟩ (.bool (Wd.ngb R.num)))).setCell ⟨W1.heap.size, 1, none⟩ (.slice Az nz cz))).setCell ⟨W1.heap.size, 2, none⟩ (.slice Azd nzd czd)) := Kw.store (c := (.slice D' m2 f2)) x5 rfl trivial _
     revert PW hcu hcd z zd; refine lg5 KW ?_; intro PW hcu hcd z zd
     replace b0 := b0.fr (W1.heap.size) 2 (.slice Azd nzd czd)
     replace r0 := r0.fr (W1.heap.size) 2 (.slice Azd nzd czd)
     replace x6 := x6.fr (W1.heap.size) 2 (.slice Azd nzd czd)
     replace x5 : Bx 24 ((((((W52).setCell ⟨W1.heap.size, 0, none⟩ (.bool (Wd.ngb R.num)))).setCell ⟨W1.heap.size, 1, none⟩ (.slice Az nz cz))).setCell ⟨W1.heap.size, 2, none⟩ (.slice Azd nzd czd)) (W1.heap.size) [.bool (Wd.ngb R.num), .slice Az nz cz, .slice Azd nzd czd] := x5.set 2 (.slice Azd nzd czd)
     replace UP := UP.setCell (p := ⟨W1.heap.size, 2, none⟩) (by dsimp only; omega) (.slice Azd nzd czd)
     clear KW
     generalize ((((((W52).setCell ⟨W1.heap.size, 0, none⟩ (.bool (Wd.ngb R.num)))).setCell ⟨W1.heap.size, 1, none⟩ (.slice Az nz cz))).setCell ⟨W1.heap.size, 2, none⟩ (.slice Azd nzd czd)) = W53 at *
     clear b0_0 b0_1 b0_2 r0_0 r0_1 r0_2 x5_0 x5_1 x5_2 x6_0 x6_1 x6_2
     obtain ⟨b0_0, b0_1, b0_2⟩ := b0.c3
     obtain ⟨r0_0, r0_1, r0_2⟩ := r0.c3
     replace r0_f0 := r0.free
     obtain ⟨x5_0, x5_1, x5_2⟩ := x5.c3
     obtain ⟨x6_0, x6_1, x6_2⟩ := x6.c3
     replace x6_f0 := x6.free
     go_wp2_with fail
     ((with_reducible refine (ref9_mul PW (qw_of hcu hcd) LPW LXX (by omega) (by omega)).mono ?_))
     rintro e W54 ⟨V54, rfl, pw, u54⟩
     clear x5_0 x5_1 x5_2 x6_0 x6_1 x6_2; refine li12 u54 PW hcu hcd z zd b0 r0 x5 x6 UP b0_0 b0_1 ?_; clear PW hcu hcd z zd b0 r0 x5 x6 UP b0_0 b0_1; intro PW hcu hcd z zd b0 r0 x5 x6 UP b0_0 b0_1; revert b0_2 r0_0 r0_1 r0_2; refine lg4 u54 ?_; intro b0_2 r0_0 r0_1 r0_2
     replace r0_f0 := r0.free
     obtain ⟨x5_0, x5_1, x5_2⟩ := x5.c3
     obtain ⟨x6_0, x6_1, x6_2⟩ := x6.c3
     replace x6_f0 := x6.free
     clear u54
     rw [HN.out] at pw
     obtain ⟨Xpw, Ypw, rfl, pw, pwd⟩ := pw
     obtain ⟨Apw, npw, cpw, rfl⟩ := pw.shape
     obtain ⟨Apwd, npwd, cpwd, rfl⟩ := pwd.shape
     go_wp2_with fail
     have KW : Kw (W54) ((W54).setCell ⟨W3.heap.size, 0, none⟩ (.bool (Wd.ngb N.num))) := Kw.store (c := (.bool t')) x6 rfl trivial _
     revert PW hcu hcd z zd pw pwd; refine lg7 KW ?_; intro PW hcu hcd z zd pw pwd
     replace b0 := b0.fr (W3.heap.size) 0 (.bool (Wd.ngb N.num))
     replace r0 := r0.fr (W3.heap.size) 0 (.bool (Wd.ngb N.num))
     replace x5 := x5.fr (W3.heap.size) 0 (.bool (Wd.ngb N.num))
     replace x6 : Bx 24 ((W54).setCell ⟨W3.heap.size, 0, none⟩ (.bool (Wd.ngb N.num))) (W3.heap.size) [.bool (Wd.ngb N.num), .slice B' m3 f3, .slice E' m4 f4] := x6.set 0 (.bool (Wd.ngb N.num))
     replace UP := UP.setCell (p := ⟨W3.heap.size, 0, none⟩) (by dsimp only; omega) (.bool (Wd.ngb N.num))
     have KW : Kw (((W54).setCell ⟨W3.heap.size, 0, none⟩ (.bool (Wd.ngb N.num)))) ((((W54).setCell ⟨W3.heap.size, 0, none⟩ (.bool (Wd.ngb N.num)))).setCell ⟨W3.heap.size, 1, none⟩ (.slice Apw npw cpw)) := Kw.store (c := (.slice B' m3 f3)) x6 rfl trivial _
     revert PW hcu hcd z zd pw pwd; refine lg7 KW ?_; intro PW hcu hcd z zd pw pwd
     replace b0 := b0.fr (W3.heap.size) 1 (.slice Apw npw cpw)
     replace r0 := r0.fr (W3.heap.size) 1 (.slice Apw npw cpw)
     replace x5 := x5.fr (W3.heap.size) 1 (.slice Apw npw cpw)
     replace x6 : Bx 24 ((((W54).setCell ⟨W3.heap.size, 0, none⟩ (.bool (Wd.ngb N.num)))).setCell ⟨W3.heap.size, 1, none⟩ (.slice Apw npw cpw)) (W3.heap.size) [.bool (Wd.ngb N.num), .slice Apw npw cpw, .slice E' m4 f4] := x6.set 1 (.slice Apw npw cpw)
     replace UP := UP.setCell (p := ⟨W3.heap.size, 1, none⟩) (by dsimp only; omega) (.slice Apw npw cpw)
     have KW : Kw (((((W54).setCell ⟨W3.heap.size, 0, none⟩ (.bool (Wd.ngb N.num)))).setCell ⟨W3.heap.size, 1, none⟩ (.slice Apw npw cpw))) ((((((W54).setCell ⟨W3.heap.size, 0, none⟩ (.bool (Wd.ngb N.num)))).setCell ⟨W3.heap.size, 1, none⟩ (.slice Apw npw cpw))).setCell ⟨W3.heap.size, 2, none⟩ (.slice Apwd npwd cpwd)) := Kw.store (c := (.slice E' m4 f4)) x6 rfl trivial _
     revert PW hcu hcd z zd pw pwd; refine lg7 KW ?_; intro PW hcu hcd z zd pw pwd
     replace b0 := b0.fr (W3.heap.size) 2 (.slice Apwd npwd cpwd)
     replace r0 := r0.fr (W3.heap.size) 2 (.slice Apwd npwd cpwd)
     replace x5 := x5.fr (W3.heap.size) 2 (.slice Apwd npwd cpwd)
     replace x6 : Bx 24 ((((((W54).setCell ⟨W3.heap.size, 0, none⟩ (.bool (Wd.ngb N.num)))).setCell ⟨W3.heap.size, 1, none⟩ (.slice Apw npw cpw))).setCell ⟨W3.heap.size, 2, none⟩ (.slice Apwd npwd cpwd)) (W3.heap.size) [.bool (Wd.ngb N.num), .slice Apw npw cpw, .slice Apwd npwd cpwd] := x6.set 2 (.slice Apwd npwd cpwd)
     replace UP := UP.setCell (p := ⟨W3.heap.size, 2, none⟩) (by dsimp only; omega) (.slice Apwd npwd cpwd)
     clear KW
     generalize ((((((W54).setCell ⟨W3.heap.size, 0, none⟩ (.bool (Wd.ngb N.num)))).setCell ⟨W3.heap.size, 1, none⟩ (.slice Apw npw cpw))).setCell ⟨W3.heap.size, 2, none⟩ (.slice Apwd npwd cpwd)) = W55 at *
     clear b0_0 b0_1 b0_2 r0_0 r0_1 r0_2 x5_0 x5_1 x5_2 x6_0 x6_1 x6_2
     obtain ⟨b0_0, b0_1, b0_2⟩ := b0.c3
     obtain ⟨r0_0, r0_1, r0_2⟩ := r0.c3
     replace r0_f0 := r0.free
     obtain ⟨x5_0, x5_1, x5_2⟩ := x5.c3
     obtain ⟨x6_0, x6_1, x6_2⟩ := x6.c3
     go_wp2_with fail
     go_roundw
     case rel => exact ⟨j + 1, _, _, _, _, _, _, _, _, _, _, _, _, _, _, by first | rfl | go_num | (congr 1; omega), by omega, x5, by rw [HV.out]; exact ⟨_, _, rfl, z, zd⟩, x6, by rw [HPS.out]; exact ⟨_, _, rfl, pw, pwd⟩, b0, r0, hcu, hcd, UP⟩
     case measure => simp [intOf] <;> omega
  · obtain rfl : j = qs.length := by omega
    rw [List.take_length] at X
    have k1 : ¬ (qs.length : Int) < (qs.length : Int) := by omega
    go_wp2_with fail
    exact end_rq rfl rfl rfl X r0 trivial trivial trivial UP (by omega)
end Go.Proofs.YtmmcffceeahemaaGreat
