/-
  Layer 14: a row with noughts behind.
  Layers 11 and 14: the sum of two rows.
  Layer 14: sums and differences.
-/
import Derived.Test.YtmmcffceeahemaaGreatZtPoly4
import Derived.Test.YtmmcffceeahemaaGreatZtShort
import Derived.Test.YtmmcffceeahemaaGreatZtPolyPlain
import Derived.Test.YtmmcffceeahemaaGreatZtPoly2
set_option linter.unusedVariables false
set_option linter.unusedSimpArgs false
namespace Pq
/-- Noughts behind, up to a length: the first j of them are laid. -/
def pad (qs : List Rat) (n j : Nat) : List Rat := (List.range n).map (fun i => if i < j then qs.getD i 0 else 0)
theorem pad_len (qs : List Rat) (n j : Nat) : (pad qs n j).length = n := by simp [pad]
theorem pad_zero (qs : List Rat) (n : Nat) : List.replicate n 0 = pad qs n 0 := by
 apply List.ext_getElem (by simp [pad])
 intro i h1 h2
 simp [pad]
theorem pad_set {qs : List Rat} {n j : Nat} (h : j < n) : (pad qs n j).set j (qs.getD j 0) = pad qs n (j + 1) := by
 apply List.ext_getElem (by simp [pad])
 intro i h1 h2
 simp only [pad, List.getElem_set, List.getElem_map, List.getElem_range]
 by_cases e : j = i
 · subst e
   rw [if_pos rfl, if_pos (Nat.lt_succ_self j)]
 · rw [if_neg e]
   by_cases hi : i < j
   · rw [if_pos hi, if_pos (by omega)]
   · rw [if_neg hi, if_neg (by omega)]
end Pq
namespace Go.Proofs.YtmmcffceeahemaaGreat
open Go.RowKit
/-- 'make([]Frac, n)'. -/
theorem wl_make_q {w0 w : World} {ops : Array Oper} {rest : List Oper} {o : Oper} {a : Act} {Q : Exit → Act → World → Prop} {P : World → Value → Rat → Prop}
 (hP : ∀ w, P w F3.zero.agg 0) (hg : o.guard = none) (lo co : Operand) (hop : o.op = Op.makeSlice 49 lo co) (n : Nat) {L : Int} (hl : a.eval lo = .int .i64 L) (hc : a.eval co = .int .i64 L) (hL : L = (n : Int)) (hn : n ≤ 400000000) (hu : Up w0 w)
 (hK : ∀ w', OwnQ P 34 w0.heap.size w' (.slice (some ⟨w.heap.size, 0, none⟩) n n) (List.replicate n 0) → Up w w' → wpList Tryz.prog ops Q rest (a.put o.dst (.slice (some ⟨w.heap.size, 0, none⟩) n n)) w') :
 wpList Tryz.prog ops Q (o :: rest) a w := by
 obtain ⟨i0, hi, hz0, hz1, hz2⟩ := info_parts (show (Tryz.prog.info? 34).map (fun i => (i.zero, i.size, i.bytes)) = some (some (.agg #[.bool false, .slice none 0 0, .slice none 0 0]), 3, 56) from info_frac)
 refine wpList_make_full w hg lo co 49 hop w.heap.size 34 i0 (.agg #[.bool false, .slice none 0 0, .slice none 0 0]) 3 Tryz.underlying49 hi hz0 hz1 .i64 .i64 L L n hl hc hL hL (by rw [hz2]; omega) (by unfold maxLen; omega) (Nat.le_refl _) ?_
 intro w' hown hgr
 refine hK w' ?_ ((Up.refl w).grown hgr (fun k h => by cases h))
 rcases hown.2 with ⟨h1, _⟩ | ⟨g, cap, cur, hv, _, hh, _, _, hs, htake⟩
 · cases h1
 · simp at hv
   obtain ⟨rfl, rfl⟩ := hv
   refine OwnQ.made hP ?_ hu (by omega)
   unfold Bx
   rw [hh]
   have e : cur.toList = (madeCells #[.bool false, .slice none 0 0, .slice none 0 0] (n * 3)).toList := by
    have ec : (Value.agg #[.bool false, .slice none 0 0, .slice none 0 0]).cells = #[.bool false, .slice none 0 0, .slice none 0 0] := by first | rfl | simp [Value.cells]
    rw [ec, List.take_of_length_le (by simp [hs])] at htake
    exact htake
   have e2 : cur = (fcells (List.replicate n F3.zero)).toArray := by
    apply Array.toList_inj.1
    rw [e, made_f3]
   rw [e2]
theorem frk_zero {k : Nat} (hk : 1 ≤ k) (w : World) : Frk k w F3.zero.agg 0 := ⟨false, .slice none 0 0, .slice none 0 0, [], [], rfl, Ws.nil w, Ws.nil w, by simp [Wd.val, Wd.iv], by simp, by simp, hk⟩
set_option maxRecDepth 100000 in
set_option maxHeartbeats 6400000 in
theorem poly_long {v : Value} {qs : List Rat} {ka n : Nat} {w : World} (h : Sq (Frk ka) w v qs) (hl : qs.length ≤ 100000000) (hn : n ≤ 100000000) (hka : 2 ≤ ka) : Calls Tryz.prog 113 #[v, .int .i64 n] w fun e w' => ∃ V, e = .returned V ∧ OwnQ (Frk ka) 34 w.heap.size w' V (Pq.pad qs n n) ∧ Up w w' := by
 obtain ⟨A, cv, rfl⟩ := h.form
 have H := Lib.hid h
 clear h
 go_enter Tryz.func113, Tryz.ntmps113
 go_wp2_with (at_make; go_loud (refine wl_make_q (w0 := w) (P := Frk ka) (frk_zero (by omega)) rfl _ _ rfl n rfl rfl rfl ?_ (Up.refl w) ?_))
 · omega
 intro w1 MR0 u0
 rw [Pq.pad_zero qs n] at MR0
 have HM := Lib.hid MR0
 clear MR0
 go_wp2_with fail
 go_loopw [6, 11] (fun _ s11 wr => ∃ j : Nat, s11 = .int .i64 j ∧ j ≤ n ∧ OwnQ (Frk ka) 34 w.heap.size wr (.slice (some ⟨w.heap.size, 0, none⟩) n n) (Pq.pad qs n j) ∧ Up w wr) (fun _ s11 _ => n - (intOf s11).toNat)
 case atStart => exact ⟨0, rfl, Nat.zero_le _, HM.out, u0⟩
 case round =>
  obtain ⟨j, rfl, hj, MR, UP⟩ := hrel
  by_cases hlt : j < n
  · have HS : Hid _ := Lib.hid (Pq.pad_set (qs := qs) hlt)
    have HPL := Lib.hid (Pq.pad_len qs n j)
    have hp : j < (Pq.pad qs n j).length := by rw [HPL.out]; exact hlt
    have k1 : (j : Int) < (n : Int) := by omega
    have k0 : (0 : Int) ≤ (j : Int) := by omega
    have kk : ((j : Int)).toNat = j := by omega
    by_cases hq : j < qs.length
    · obtain ⟨b, o, s, B, m0, f, D, n', f', e0, hb, g1, g2, g3, FX⟩ := (H.out.up (kp_fr ka) UP).at_ (kp_fr ka) hq
      subst e0
      have hgd : qs.getD j 0 = qs[j] := Pq.getD_at hq
      rw [hgd] at HS
      generalize qs[j] = q at *
      have k2 : (j : Int) < (qs.length : Int) := by omega
      obtain ⟨_, s9, B9, m9, f9, D9, n9, f9', e9, hbg, hb9, c1, c2, c3, _, fr⟩ := OwnQ.at_ (kp_fr ka) MR hp
      cases e9
      have f1 := fr (j * 3)
      have f2 := fr (j * 3 + 1)
      have f3 := fr (j * 3 + 2)
      clear fr
      obtain ⟨q1, _, _, q4⟩ := OwnQ.store (kp_fr ka) MR UP hp FX
      rw [HS.out] at q1
      have Q1 := Lib.hid q1
      have Q4 := Lib.hid q4
      clear q1 q4
      go_wp2_with fail
      exact ⟨⟨j + 1, by go_num, by omega, Q1.out, Q4.out⟩, by simp [intOf]; omega⟩
    · have hgd : qs.getD j 0 = 0 := by simp [List.getD_eq_getElem?_getD, List.getElem?_eq_none (Nat.le_of_not_lt hq)]
      rw [hgd] at HS
      have k2 : ¬ (j : Int) < (qs.length : Int) := by omega
      have k3 : decide ((j : Int) < (qs.length : Int)) = false := decide_eq_false k2
      have HP := Lib.hid hp
      clear hgd hp
      go_wp2_with fail
      refine (frac_of0 _).mono ?_
      rintro e W2 ⟨V2, rfl, o, u2⟩
      have MR2 := OwnQ.up (kp_fr ka) MR u2
      have UP2 := UP.trans u2
      have FX : Frk ka W2 V2 0 := o.fr ((lq_int (n := 0) (by omega)).mono hka)
      obtain ⟨P0, HP0⟩ : ∃ P, Hid ((0 : Rat) = P) := ⟨_, Lib.hid rfl⟩
      rw [HP0.out] at o FX HS
      obtain ⟨Xo, Yo, rfl, o, od⟩ := o
      obtain ⟨Ao, no, co, rfl⟩ := o.shape
      obtain ⟨Aod, nod, cod, rfl⟩ := od.shape
      obtain ⟨_, s9, B9, m9, f9, D9, n9, f9', e9, hbg, hb9, c1, c2, c3, _, fr⟩ := OwnQ.at_ (kp_fr ka) MR2 HP.out
      cases e9
      have f1 := fr (j * 3)
      have f2 := fr (j * 3 + 1)
      have f3 := fr (j * 3 + 2)
      clear fr
      obtain ⟨q1, _, _, q4⟩ := OwnQ.store (kp_fr ka) MR2 UP2 HP.out FX
      rw [HS.out] at q1
      have Q1 := Lib.hid q1
      have Q4 := Lib.hid q4
      clear q1 q4 MR UP MR2 UP2
      go_wp2_with fail
      exact ⟨⟨j + 1, by go_num, by omega, Q1.out, Q4.out⟩, by simp [intOf]; omega⟩
  · obtain rfl : j = n := by omega
    have k1 : ¬ (j : Int) < (j : Int) := by omega
    go_wp2
    go_ret
    exact ⟨_, rfl, MR, UP⟩
end Go.Proofs.YtmmcffceeahemaaGreat
namespace Pq
theorem zt_zero (p q : List Rat) : zt p q 0 = p := by
 apply List.ext_getElem (by simp [zt])
 intro i h1 h2
 simp [zt, List.getD_eq_getElem?_getD, List.getElem?_eq_getElem h2]
theorem zt_at {p q : List Rat} {j : Nat} (h : j < p.length) (h' : j < (zt p q j).length) : (zt p q j)[j] = p.getD j 0 := by simp [zt]
theorem zt_set {p q : List Rat} {j : Nat} (h : j < p.length) : (zt p q j).set j (p.getD j 0 + q.getD j 0) = zt p q (j + 1) := by
 apply List.ext_getElem (by simp [zt])
 intro i h1 h2
 simp only [zt, List.getElem_set, List.getElem_map, List.getElem_range]
 by_cases e : j = i
 · subst e
   rw [if_pos rfl, if_pos (Nat.lt_succ_self j)]
 · rw [if_neg e]
   by_cases hi : i < j
   · rw [if_pos hi, if_pos (by omega)]
   · rw [if_neg hi, if_neg (by omega)]
end Pq
namespace Go.Proofs.YtmmcffceeahemaaGreat
open Go.RowKit
set_option maxRecDepth 100000 in
set_option maxHeartbeats 6400000 in
theorem row_add {pv qv : Value} {g : Nat} {ps qs : List Rat} {ka kb : Nat} {w : World} (hb : Bx 49 w g [pv, qv]) (h1 : Sq (Frk ka) w pv ps) (h2 : Sq (Frk kb) w qv qs) (hlen : qs.length = ps.length) (hl : ps.length ≤ 100000000) (hka : ka ≤ 4000000) (hkb : kb ≤ 4000000) :
 Calls Tryz.prog 112 #[.slice (some ⟨g, 0, none⟩) 2 2] w fun e w' => ∃ V, e = .returned (.tuple #[V, .bool true]) ∧ PRow (ka + kb + 1) w w' V (Pq.zt ps qs ps.length) ∧ Up w w' := by
 obtain ⟨A, cp, rfl⟩ := h1.form
 obtain ⟨B, cq, rfl⟩ := h2.form
 have LA := Lib.hid (sq_lq h1)
 have LB := Lib.hid (sq_lq h2)
 have H2 := Lib.hid h2
 have HLEN := Lib.hid hlen
 obtain ⟨c0, c1⟩ := hb.c2
 have HB := Lib.hid hb
 clear hb h2
 go_enter Tryz.func112, Tryz.ntmps112
 go_wp2_with fail
 refine (row_norm h1 hl (by omega)).mono ?_
 rintro e w1 ⟨V1, rfl, R, u1⟩
 have R1 : PRow (ka + kb + 1) w w1 V1 (Pq.zt ps qs 0) := by rw [Pq.zt_zero]; exact R.mono (by omega)
 obtain ⟨A1, cv1, rfl⟩ := R1.form
 rw [Pq.zt_len] at R1 ⊢
 have HR := Lib.hid R1
 clear R R1 c0 c1
 go_wp2_with fail
 have HU1 := Lib.hid u1
 clear u1 h1
 go_loopw [6, 7, 8, 19] (fun _ _ _ s19 wr => ∃ t : Nat, s19 = .int .i64 t ∧ t ≤ 1 ∧ PRow (ka + kb + 1) w wr (.slice A1 ps.length cv1) (Pq.zt ps qs (t * ps.length)) ∧ Up w wr) (fun _ _ _ s19 _ => 1 - (intOf s19).toNat)
 case atStart => exact ⟨0, rfl, by omega, by rw [Nat.zero_mul]; exact HR.out, HU1.out⟩
 case round =>
  obtain ⟨t, rfl, ht, MR, UP⟩ := hrel
  obtain rfl | rfl : t = 0 ∨ t = 1 := by omega
  · rw [Nat.zero_mul] at MR
    have b0 := HB.out.up UP
    obtain ⟨c0, c1⟩ := b0.c2
    have hne : ((qs.length : Int) != (ps.length : Int)) = false := by rw [HLEN.out]; simp
    have HMR := Lib.hid MR
    have HUP := Lib.hid UP
    clear MR UP b0
    go_wp2_with fail
    clear c0 c1
    go_loopw [7, 8, 30] (fun _ _ s30 wr => ∃ j : Nat, s30 = .int .i64 j ∧ j ≤ ps.length ∧ PRow (ka + kb + 1) w wr (.slice A1 ps.length cv1) (Pq.zt ps qs j) ∧ Up w wr) (fun _ _ s30 _ => ps.length - (intOf s30).toNat)
    case atStart => exact ⟨0, rfl, Nat.zero_le _, HMR.out, HUP.out⟩
    case round =>
     clear HMR HUP
     obtain ⟨j, rfl, hj, MR, UP⟩ := hrel
     by_cases hlt : j < ps.length
     · have hlt2 : j < qs.length := by rw [HLEN.out]; exact hlt
       obtain ⟨b, o, s, B0, m0, f, D, n', f', e0, hb, g1, g2, g3, FX⟩ := (H2.out.up (kp_fr kb) UP).at_ (kp_fr kb) hlt2
       subst e0
       have HS : Hid _ := Lib.hid (Pq.zt_set (q := qs) hlt)
       have HP : Hid (j < (Pq.zt ps qs j).length) := Lib.hid (by rw [Pq.zt_len]; exact hlt)
       have HQJ : Hid ((Pq.zt ps qs j)[j]'HP.out = ps[j]) := Lib.hid (by rw [Pq.zt_at hlt HP.out, Pq.getD_at hlt])
       have LX := LA.out ps[j] (List.getElem_mem hlt)
       have LY := LB.out qs[j] (List.getElem_mem hlt2)
       rw [Pq.getD_at hlt, Pq.getD_at hlt2] at HS
       generalize qs[j] = q at *
       generalize ps[j] = p at *
       have FX : Fr wr (.agg #[.bool s, .slice B0 m0 f, .slice D n' f']) q kb := FX
       have k1 : (j : Int) < (qs.length : Int) := by omega
       have k1' : (j : Int) < (ps.length : Int) := by omega
       have k0 : (0 : Int) ≤ (j : Int) := by omega
       have kk : ((j : Int)).toNat = j := by omega
       have UW := UP
       obtain ⟨gg, _, _, _, _, _, _, _, e8, _, hgw, _, _, _, _, _⟩ := OwnQ.at_ (kp_qk _) MR HP.out
       subst e8
       have UP : Up wr wr := Up.refl wr
       go_wp2_with fail
       have a1 := Bx.new 34 wr [.bool s, .slice B0 m0 f, .slice D n' f']
       have nu := ((Up.refl wr).alloc (.cells #[.bool s, .slice B0 m0 f, .slice D n' f'] 34))
       refine li3 nu FX MR UP ?_; clear FX MR UP nu; intro FX MR UP
       generalize (wr.alloc (.cells #[.bool s, .slice B0 m0 f, .slice D n' f'] 34)) = W1 at *
       obtain ⟨a1_0, a1_1, a1_2⟩ := a1.c3
       clear g1 g2 g3
       clear a1_0 a1_1 a1_2; revert a1 FX MR UP; refine lg4 (Up.refl W1).drew ?_; intro a1 FX MR UP
       refine wp_region_noPanic ?_
       refine wp_region_held_drew (S := fun w' => w'.cell? ⟨wr.heap.size, 0, none⟩ = some (.bool s) ∧ w'.cell? ⟨wr.heap.size, 1, none⟩ = some (.slice B0 m0 f) ∧ w'.cell? ⟨wr.heap.size, 2, none⟩ = some (.slice D n' f')) (by kernel_rfl) (by exact a1.c3) (fun hHeld => ?_)
       generalize W1.drew = W0 at *
       refine tk 0 ?_
       try simp only [gs, Act.put]
       refine tk 1 ?_
       try simp only [gs, Act.put]
       refine tk 2 ?_
       try simp only [gs, Act.put]
       refine tk 3 ?_
       try simp only [gs, Act.put]
       refine tk 4 ?_
       try simp only [gs, Act.put]
       refine tk 6 ?_
       try simp only [gs, Act.put]
       obtain ⟨_, s9, B9, m9, f9, D9, n9, f9', e9, _, _, c1, c2, c3, FO, _⟩ := OwnQ.at_ (kp_qk _) MR HP.out
       cases e9
       rw [HQJ.out] at FO
       refine rd 5 (fun K hK => ?_)
       clear hHeld
       go_simp
       refine hK.out _ _ (by exact a1.c3) (fun hHeld => ?_)
       clear hK K
       try simp only [gs, Act.put]
       refine rd 7 (fun K hK => ?_)
       clear hHeld
       clear c1 c2 c3
       go_simp
       go_at_call 109
       refine (frac_add (FO.1.fr FO.2) FX (by omega) (by omega)).mono ?_
       rintro e W2 ⟨V2, rfl, z, u2⟩
       refine li3 u2 MR a1 UP ?_; clear MR a1 UP; intro MR a1 UP
       clear u2 FX FO
       have LZ := LX.add LY
       obtain ⟨Z, HZ⟩ : ∃ Z, Hid (p + q = Z) := ⟨_, Lib.hid rfl⟩
       rw [HZ.out] at z LZ HS
       obtain ⟨Xz, Yz, rfl, z, zd⟩ := z
       obtain ⟨Az, nz, cz, rfl⟩ := z.shape
       obtain ⟨Azd, nzd, czd, rfl⟩ := zd.shape
       try go_wp2_with fail
       refine hK.out _ _ (by exact a1.c3) (fun hHeld => ?_)
       clear hK K
       try simp only [gs, Act.put]
       refine tk 8 ?_
       try simp only [gs, Act.put]
       obtain ⟨_, s9', B9', m9', f9'', D9', n9', f9x, e9, _, _, c1, c2, c3, _, fr⟩ := OwnQ.at_ (kp_qk _) MR HP.out
       cases e9
       have f1 := fr (j * 3)
       have f2 := fr (j * 3 + 1)
       have f3 := fr (j * 3 + 2)
       clear fr
       obtain ⟨q1, _, _, q4⟩ := OwnQ.store (kp_qk _) MR (UW.trans UP) HP.out (show Qk (ka + kb + 1) W2 (.agg #[.bool (Wd.ngb Z.num), .slice Az nz cz, .slice Azd nzd czd]) Z from ⟨⟨_, _, rfl, z, zd⟩, LZ⟩)
       rw [HS.out] at q1
       have Q1 := Lib.hid q1
       have Q4 := Lib.hid q4
       clear q1 q4
       refine rd 9 (fun K hK => ?_)
       clear hHeld
       go_simp
       refine hK.out _ _ (by exact (((a1.far (p := ⟨gg, j * 3, none⟩) (by dsimp only; omega) _).far (p := ⟨gg, j * 3 + 1, none⟩) (by dsimp only; omega) _).far (p := ⟨gg, j * 3 + 2, none⟩) (by dsimp only; omega) _).c3) (fun hHeld => ?_)
       clear hK K
       try simp only [gs, Act.put]
       refine wpAnyH_done (by decide +kernel) (NoPanic.normal ?_) _
       clear hHeld c1 c2 c3 f1 f2 f3
       go_wp2_with fail
       go_roundw
       case rel =>
        refine ⟨_, _, _, _, _, _, _, _, _, _, _, _, _, _, _, _, _, ⟨j + 1, ?_, by omega, Q1.out, Q4.out⟩, rfl⟩
        first | rfl | go_num
       case measure => simp [intOf]; omega
     · obtain rfl : j = ps.length := by omega
       have k1 : ¬ ((ps.length : Int) < (qs.length : Int)) := by rw [HLEN.out]; omega
       go_wp2_with fail
       exact ⟨⟨1, rfl, Nat.le_refl _, by rw [Nat.one_mul]; exact MR, UP⟩, by simp [intOf]⟩
  · rw [Nat.one_mul] at MR
    go_wp2_with fail
    go_ret2
    exact ⟨_, rfl, MR, UP⟩
end Go.Proofs.YtmmcffceeahemaaGreat
namespace Go.Proofs.YtmmcffceeahemaaGreat
open Go.RowKit
/-- A row of fractions of at most so many words that can be read. -/
def FSq (k : Nat) (w : World) (v : Value) (qs : List Rat) : Prop := Sq (Frk k) w v qs
theorem FSq.up {k : Nat} {w w' : World} {v : Value} {qs : List Rat} (h : FSq k w v qs) (hu : Up w w') : FSq k w' v qs := Sq.up (kp_fr k) h hu
instance FSq.lup {k : Nat} {w w' : World} {v : Value} {qs : List Rat} : Lu (Up w w') (FSq k w v qs) (FSq k w' v qs) := luM fun u h => h.up u
theorem FSq.form {k : Nat} {w : World} {v : Value} {qs : List Rat} (h : FSq k w v qs) : ∃ A c, v = .slice A qs.length c := Sq.form h
theorem FSq.sq {k : Nat} {w : World} {v : Value} {qs : List Rat} (h : FSq k w v qs) : Sq (Frk k) w v qs := h
theorem FSq.mono {j k : Nat} {w : World} {v : Value} {qs : List Rat} (h : FSq j w v qs) (hk : j ≤ k) : FSq k w v qs := Sq.imp h fun hx => Fr.mono hx hk
theorem FSq.lq {k : Nat} {w : World} {v : Value} {qs : List Rat} (h : FSq k w v qs) : ∀ q ∈ qs, Wd.Lq q k := sq_lq h
theorem PRow.fs {k : Nat} {w0 w : World} {v : Value} {qs : List Rat} (h : PRow k w0 w v qs) : FSq k w v qs := h.fr
/-- The bound may be told anew: right fractions are as long as their values are. -/
theorem PRow.re {j k : Nat} {w0 w : World} {v : Value} {qs : List Rat} (h : PRow j w0 w v qs) (hq : ∀ q ∈ qs, Wd.Lq q k) : PRow k w0 w v qs := by
 obtain ⟨xs, ha, hr⟩ := h
 refine ⟨xs, ⟨ha.1, fun i x q h1 h2 => ⟨(ha.2 i x q h1 h2).1, hq q (List.mem_of_getElem? h2)⟩⟩, hr⟩
def RetF (k : Nat) (qs : List Rat) (w : World) (e : Ending) (w' : World) : Prop := ∃ v, e = .returned v ∧ FSq k w' v qs ∧ Up w w'
theorem poly_long2 {v : Value} {qs : List Rat} {ka n : Nat} {w : World} {N : Int} (h : FSq ka w v qs) (hl : qs.length ≤ 100000000) (hN : N = (n : Int)) (hn : n ≤ 100000000) (hka : 2 ≤ ka) : Calls Tryz.prog 113 #[v, .int .i64 N] w (RetF ka (Pq.pad qs n n) w) := by
 subst hN
 refine (poly_long h hl hn hka).mono ?_
 rintro e w' ⟨V, h1, h2, h3⟩
 exact ⟨V, h1, h2.sq, h3⟩
set_option maxRecDepth 100000 in
set_option maxHeartbeats 3200000 in
theorem poly_add {v u : Value} {ps qs : List Rat} {ka kb : Nat} {w : World} (h : FSq ka w v ps) (h2 : FSq kb w u qs) (hl : ps.length ≤ 10000) (hl2 : qs.length ≤ 10000) (ha : 2 ≤ ka) (hb : 2 ≤ kb) (hka : ka ≤ 4000000) (hkb : kb ≤ 4000000) :
 Calls Tryz.prog 35 #[v, u] w (RetP (ka + kb + 3) (Pq.nm (Pq.add ps qs)) w) := by
 obtain ⟨A, cp, rfl⟩ := h.form
 obtain ⟨B, cq, rfl⟩ := h2.form
 obtain ⟨n, HN⟩ : ∃ n : Nat, Hid (n = max ps.length qs.length) := ⟨_, Lib.hid rfl⟩
 have hn : n ≤ 10000 := by have := HN.out; omega
 have hp : ps.length ≤ n := by have := HN.out; omega
 have hq : qs.length ≤ n := by have := HN.out; omega
 have HM : Hid ((n : Int) = if (qs.length : Int) > (ps.length : Int) then (qs.length : Int) else (ps.length : Int)) := Lib.hid (by rw [HN.out]; split <;> omega)
 have HE : Hid (Pq.nm (Pq.zt (Pq.pad ps n n) (Pq.pad qs n n) (Pq.pad ps n n).length) = Pq.nm (Pq.add ps qs)) := Lib.hid (Pq.nm_zt (by rw [Pq.pad_len, Pq.pad_len]) (fun x => Pq.E_rpad hp x) (fun x => Pq.E_rpad hq x))
 have L1 := Lib.hid (Pq.pad_len ps n n)
 have L2 := Lib.hid (Pq.pad_len qs n n)
 have HZ := Lib.hid (Pq.zt_len (Pq.pad ps n n) (Pq.pad qs n n) (Pq.pad ps n n).length)
 have UP : Up w w := Up.refl w
 go_enter Tryz.func35, Tryz.ntmps35
 go_wp2_with (with_reducible show wpList _ _ _ _ _ _; refine wl_max (o := ⟨some 12, _, _, _, _, _⟩) rfl _ _ _ _ rfl rfl rfl HM.out ?_)
 ((with_reducible refine (poly_long2 h (by omega) rfl (by omega) ha).mono ?_))
 rintro e W1 ⟨V1, rfl, p1, u1⟩
 revert h h2 UP
 revert u1
 refine lh3 ?_
 intro h h2 UP
 go_wp2_with fail
 ((with_reducible refine (poly_long2 h2 (by omega) rfl (by omega) hb).mono ?_))
 rintro e W2 ⟨V2, rfl, p2, u2⟩
 revert p1 h h2 UP
 revert u2
 refine lh4 ?_
 intro p1 h h2 UP
 generalize Pq.pad ps n n = P1 at *
 generalize Pq.pad qs n n = P2 at *
 obtain ⟨A1, c1, rfl⟩ := p1.form
 obtain ⟨A2, c2, rfl⟩ := p2.form
 go_wp2_with fail
 have sl := Bx.new 49 W2 [.slice A1 P1.length c1, .slice A2 P2.length c2]
 have nu := ((Up.refl W2).alloc (.cells #[.slice A1 P1.length c1, .slice A2 P2.length c2] 49))
 refine li5 nu h h2 p1 p2 UP ?_
 clear h h2 p1 p2 UP nu
 intro h h2 p1 p2 UP
 generalize (W2.alloc (.cells #[.slice A1 P1.length c1, .slice A2 P2.length c2] 49)) = W3 at *
 obtain ⟨sl_0, sl_1⟩ := sl.c2
 ((with_reducible refine (row_add sl p1.sq p2.sq (L2.out.trans L1.out.symm) (by rw [L1.out]; omega) (by omega) (by omega)).mono ?_))
 rintro e W4 ⟨V4, rfl, r, u4⟩
 revert sl h h2 p1 p2 UP sl_0 sl_1
 revert u4
 refine lh8 ?_
 intro sl h h2 p1 p2 UP sl_0 sl_1
 have RF := r.fs
 have hz : (Pq.zt P1 P2 P1.length).length ≤ 100000000 := by rw [HZ.out, L1.out]; omega
 obtain ⟨A3, c3, rfl⟩ := r.form
 clear r
 have UQ := UP
 go_wp2_with fail
 ((with_reducible refine (poly_norm RF.sq hz (by omega)).mono ?_))
 rintro e W5 ⟨V5, rfl, r2, u5⟩
 revert sl h h2 p1 p2 UP sl_0 sl_1 RF
 revert u5
 refine lh9 ?_
 intro sl h h2 p1 p2 UP sl_0 sl_1 RF
 rw [HE.out] at r2
 go_wp2
 go_ret
 exact ⟨_, rfl, r2.weaken UQ, UP⟩
theorem lq_scn {qs : List Rat} {k : Nat} (h : ∀ q ∈ qs, Wd.Lq q k) : ∀ q ∈ Pq.nm (Pq.sc (-1) qs), Wd.Lq q k := by
 intro q hq
 obtain ⟨y, hy, rfl⟩ := List.mem_map.1 (Pq.nm_mem hq)
 rw [Rat.neg_mul, Rat.one_mul]
 exact (h y hy).neg
theorem RetP.re {j k : Nat} {qs : List Rat} {w : World} {e : Ending} {w' : World} (h : RetP j qs w e w') (hq : ∀ q ∈ qs, Wd.Lq q k) : RetP k qs w e w' := by
 obtain ⟨V, h1, h2, h3⟩ := h
 exact ⟨V, h1, h2.re hq, h3⟩
set_option maxRecDepth 100000 in
set_option maxHeartbeats 3200000 in
theorem poly_sub {v u : Value} {ps qs : List Rat} {ka kb : Nat} {w : World} (h : FSq ka w v ps) (h2 : FSq kb w u qs) (hl : ps.length ≤ 10000) (hl2 : qs.length ≤ 10000) (ha : 2 ≤ ka) (hb : 2 ≤ kb) (hka : ka ≤ 4000000) (hkb : kb ≤ 4000000) :
 Calls Tryz.prog 37 #[v, u] w (RetP (ka + kb + 3) (Pq.nm (Pq.sub ps qs)) w) := by
 have HS := Lib.hid (lq_scn h2.lq)
 have HN := Lib.hid (Pq.nm_sub ps qs)
 have HL : Hid ((Pq.nm (Pq.sc (-1) qs)).length ≤ 10000) := Lib.hid (Nat.le_trans (Pq.nm_len _) (by rw [Pq.sc_len]; exact hl2))
 obtain ⟨A, cp, rfl⟩ := h.form
 obtain ⟨B, cq, rfl⟩ := h2.form
 have UP : Up w w := Up.refl w
 go_enter Tryz.func37, Tryz.ntmps37
 go_wp2_with fail
 ((with_reducible refine (frac_of (n := -1) (by omega) _).mono ?_))
 rintro e W1 ⟨V1, rfl, o, u1⟩
 revert h h2 UP
 revert u1
 refine lh3 ?_
 intro h h2 UP
 have HF : Hid (Fr W1 V1 ((-1 : Int) : Rat) 2) := Lib.hid (o.fr (lq_int (by omega)))
 obtain ⟨P0, HP0⟩ : ∃ P, Hid ((((-1 : Int) : Int) : Rat) = P) := ⟨_, Lib.hid rfl⟩
 rw [HP0.out] at o HF
 obtain ⟨Xo, Yo, rfl, o, od⟩ := o
 obtain ⟨Ao, no, co, rfl⟩ := o.shape
 obtain ⟨Aod, nod, cod, rfl⟩ := od.shape
 go_wp2_with fail
 ((with_reducible refine (poly_scale HF.out h2.sq (by omega) (by omega) (by omega)).mono ?_))
 rintro e W2 ⟨V2, rfl, r, u2⟩
 revert h h2 UP o od
 revert u2
 refine lh5 ?_
 intro h h2 UP o od
 rw [← HP0.out, show (((-1 : Int)) : Rat) = -1 from rfl] at r
 replace r := r.re HS.out
 have rf := r.fs
 clear r
 generalize Pq.nm (Pq.sc (-1) qs) = ns at *
 obtain ⟨A3, c3, rfl⟩ := rf.form
 have UQ := UP
 go_wp2_with fail
 ((with_reducible refine (poly_add h rf hl HL.out ha hb hka hkb).mono ?_))
 rintro e W3 ⟨V3, rfl, s, u3⟩
 refine li6 u3 h h2 o od rf UP ?_
 clear h h2 o od rf UP u3
 intro h h2 o od rf UP
 rw [HN.out] at s
 go_wp2
 go_ret
 exact ⟨_, rfl, s.weaken UQ, UP⟩
end Go.Proofs.YtmmcffceeahemaaGreat
