/-
  Layer 14, the document's answers: the common divisor.
-/
import Derived.Test.YtmmcffceeahemaaGreatRefPoly6
import Derived.Test.YtmmcffceeahemaaGreatRefGcdMath
set_option linter.unusedVariables false
set_option linter.unusedSimpArgs false
namespace Go.Proofs.YtmmcffceeahemaaGreat
open Go.RowKit

theorem ref9_int1g (w : World) : Calls Tryz.prog 65 #[.int .i64 1] w (RetQ 1 w) := ref9_int (n := 1) (by omega) w
theorem Qk.of {k : Nat} {w : World} {v : Value} {q : Rat} (h : Qw w v q) (hk : Wd.Lq q k) : Qk k w v q := ⟨h, hk⟩
/-- What comes back: the common divisor. -/
def RetGQ (K : Nat) (x y : List Rat) (w : World) (e : Ending) (w' : World) : Prop := ∃ V g, e = .returned V ∧ QRow K w w' V g ∧ Pq.IsGcd x y g ∧ Up w w'
set_option maxRecDepth 100000 in
set_option maxHeartbeats 12800000 in
theorem ref_gcd14 {v u : Value} {x y : List Rat} {ka kb j m D K Z : Nat} {w : World} (h : QSq ka w v x) (h2 : QSq kb w u y) (hx : x.length ≤ m) (hy : y.length ≤ m) (hm : m ≤ 299) (LX : Pq.Lp x j) (LY : Pq.Lp y j) (hjD : j ≤ D) (HK : Hid (∀ n, (∀ i, i < n → (Pq.gst x y i).2 ≠ []) → Pq.Lp (Pq.gst x y n).1 K ∧ Pq.Lp (Pq.gst x y n).2 K)) (hD : K + (m + 1) * (K + 1) ≤ D) (hZ : D * (m + 1) + K = Z) (hZZ : Z + Z + (m + 1) * (Z + 1) + Z + Z + 10 ≤ 900000) (hka : ka ≤ Z) (hkb : kb ≤ Z) :
 Calls Tryz.prog 47 #[v, u] w (RetGQ K x y w) := by
 have HST := Lib.hid (Pq.Gk.start (m := m) LX LY hjD hy)
 have HTR : Hid (∀ n X Y, Pq.Gk x y D m n X Y → Pq.Tr X ∧ Pq.Tr Y) := Lib.hid (fun n X Y h => h.tr)
 have HLE : Hid (∀ n X Y, Pq.Gk x y D m n X Y → X.length ≤ m ∧ Y.length ≤ m) := Lib.hid (fun n X Y h => h.len hx hy)
 have HSZ : Hid (∀ n X Y, Pq.Gk x y D m n X Y → Pq.Lp X Z ∧ Pq.Lp Y Z) := Lib.hid (fun n X Y h => by have := h.size HK.out; rwa [hZ] at this)
 have HRD : Hid (∀ n X Y, Pq.Gk x y D m n X Y → Y ≠ [] → Pq.Gk x y D m (n + 1) Y (Pq.dr X Y) ∧ (Pq.dr X Y).length < Y.length) := Lib.hid (fun n X Y h hne => h.round hx hy HK.out hD hne)
 have HFI : Hid (∀ n X, Pq.Gk x y D m n X [] → Pq.IsGcd x y (Pq.gst x y n).1 ∧ (X = [] → (Pq.gst x y n).1 = []) ∧ (X ≠ [] → Pq.nm (Pq.sc (1 / X.getD (X.length - 1) 0) X) = (Pq.gst x y n).1)) := Lib.hid (fun n X h => h.fin)
 have HGK : Hid (∀ n, (∀ i, i < n → (Pq.gst x y i).2 ≠ []) → ∀ q ∈ (Pq.gst x y n).1, Wd.Lq q K) := Lib.hid (fun n hn => (HK.out n hn).1.lq)
 have HLQX : Hid (∀ q ∈ Pq.nm x, Wd.Lq q Z) := Lib.hid (fun q hq => (h.lq q (Pq.nm_mem hq)).mono hka)
 have HLQY : Hid (∀ q ∈ Pq.nm y, Wd.Lq q Z) := Lib.hid (fun q hq => (h2.lq q (Pq.nm_mem hq)).mono hkb)
 have hZ9 : Z ≤ 900000 := by omega
 have HDI : Hid (∀ l, l ≤ m → Z + Z + (l + 1) * (Z + 1) ≤ Z + Z + (m + 1) * (Z + 1)) := Lib.hid (fun l hl => by
  have : (l + 1) * (Z + 1) ≤ (m + 1) * (Z + 1) := Nat.mul_le_mul_right _ (by omega)
  omega)
 obtain ⟨Z2, hZ2⟩ : ∃ Z2, Z2 = Z + Z + (m + 1) * (Z + 1) := ⟨_, rfl⟩
 rw [← hZ2] at hZZ HDI
 have hz3 : Z ≤ Z2 := by omega
 obtain ⟨A, cv, rfl⟩ := h.form
 obtain ⟨B, cu, rfl⟩ := h2.form
 have H := Lib.hid h
 have H2 := Lib.hid h2
 clear h h2 LX LY hD hZ hZ2 HK
 go_enter Tryz.func47, Tryz.ntmps47
 go_wp2_with fail
 ((with_reducible refine (rnorm_as H.out (by omega) (by omega) (Lib.hid rfl)).mono ?_))
 rintro e W1 ⟨V1, rfl, R1, u1⟩
 have R1 := QRow.re (k := Z) R1 HLQX.out
 go_wp2_with fail
 ((with_reducible refine (rnorm_as (H2.out.up u1) (by omega) (by omega) (Lib.hid rfl)).mono ?_))
 rintro e W2 ⟨V2, rfl, R2, u2⟩
 have R2 := QRow.re (k := Z) R2 HLQY.out
 have HR1 := Lib.hid (R1.up u2)
 have HR2 := Lib.hid (R2.weaken u1)
 have HU := Lib.hid (u1.trans u2)
 clear R1 R2 u1 u2
 go_wp2_with fail
 go_loopw [5, 6, 7, 8] (fun s5 s6 _ _ wr => ∃ (n : Nat) (X Y : List Rat), Hid (Pq.Gk x y D m n X Y) ∧ QRow Z w wr s5 X ∧ QRow Z w wr s6 Y ∧ Up w wr) (fun _ s6 _ _ _ => lenV s6)
 case atStart => exact ⟨0, _, _, HST, HR1.out, HR2.out, HU.out⟩
 case round =>
  clear HR1 HR2 HU HST
  obtain ⟨n, X, Y, HG, MX, MY, UP⟩ := hrel
  obtain ⟨D5, d5, rfl⟩ := MX.form
  obtain ⟨D6, d6, rfl⟩ := MY.form
  have LEN := HLE.out n X Y HG.out
  have SZ := HSZ.out n X Y HG.out
  have TR := HTR.out n X Y HG.out
  by_cases h0 : Y = []
  · subst h0
    obtain ⟨F1, F2, F3⟩ := HFI.out n X HG.out
    have F1 := Lib.hid F1
    have LG := Lib.hid (HGK.out n HG.out.1)
    have lx := LEN.1
    have LXX := Lib.hid SZ.1.lq
    clear LEN SZ TR
    by_cases hX : X = []
    · have hl0 : X.length = 0 := by rw [hX]; rfl
      have HE := Lib.hid (hX.trans (F2 hX).symm)
      have hx0 : ((X.length : Int) == 0) = true := by simp [hl0]
      clear hX F2 F3
      go_wp2
      go_ret
      exact ⟨_, _, rfl, (MX.own_q HE.out).re LG.out, F1.out, UP⟩
    · have hl0 : 1 ≤ X.length := List.length_pos_iff.2 hX
      have HE := Lib.hid (F3 hX)
      have hx0 : ((X.length : Int) == 0) = false := by simp [hX]
      clear hX F2 F3
      have hr1 : X.length - 1 < X.length := by omega
      obtain ⟨b1, o1, s1, B1, x1, f1, D1, y1, z1, e1, hb1', g1, g2, g3, FX0⟩ := Sq.at_ (kp_qk Z) MX.q.sq hr1
      subst e1
      have FX : Qk Z wr (.agg #[.bool s1, .slice B1 x1 f1, .slice D1 y1 z1]) X[X.length - 1] := FX0
      have LT := LXX.out _ (List.getElem_mem hr1)
      have hat : X.getD (X.length - 1) 0 = X[X.length - 1] := Pq.getD_at hr1
      rw [hat] at HE
      clear hat FX0
      have hw1 : IntKind.i64.wrap ((X.length : Int) - 1) = ((X.length - 1 : Nat) : Int) := by rw [IntKind.wrap_i64]; omega
      have q1 : ((X.length - 1 : Nat) : Int) < (X.length : Int) := by omega
      have q3 : (0 : Int) ≤ ((X.length - 1 : Nat) : Int) := by omega
      have q5 : (((X.length - 1 : Nat) : Int)).toNat = X.length - 1 := by omega
      have FXw := FX.qw
      clear FX
      generalize X[X.length - 1] = t at *
      generalize X.length - 1 = ir at *
      obtain ⟨c, HC⟩ : ∃ c, Hid (1 / t = c) := ⟨_, Lib.hid rfl⟩
      have L1 : Wd.Lq (1 : Rat) 2 := lq_int (n := 1) (by omega)
      have LC : Wd.Lq c (2 + Z) := by rw [← HC.out]; exact L1.div LT
      rw [HC.out] at HE
      obtain ⟨g, HGG⟩ : ∃ g, Hid ((Pq.gst x y n).1 = g) := ⟨_, Lib.hid rfl⟩
      rw [HGG.out] at HE F1 LG
      have HOLD : Hid (∀ w', Up wr w' → w'.cell? ⟨b1, o1 + ir * 3, none⟩ = some (.bool s1) ∧ w'.cell? ⟨b1, o1 + ir * 3 + 1, none⟩ = some (.slice B1 x1 f1) ∧ w'.cell? ⟨b1, o1 + ir * 3 + 2, none⟩ = some (.slice D1 y1 z1)) := Lib.hid (fun w' up => ⟨up.keeps g1, up.keeps g2, up.keeps g3⟩)
      clear g1 g2 g3
      have HMX := Lib.hid MX
      have HUP := Lib.hid UP
      clear MX MY UP
      have UP : Up wr wr := Up.refl wr
      go_wp2_with fail
      replace FXw := FXw.up (Up.refl wr).drew
      replace UP := UP.trans (Up.refl wr).drew
      refine wp_region_noPanic ?_
      refine wp_region_held_drew (S := fun w' => Up wr w' ∧ w'.cell? ⟨b1, o1 + ir * 3, none⟩ = some (.bool s1) ∧ w'.cell? ⟨b1, o1 + ir * 3 + 1, none⟩ = some (.slice B1 x1 f1) ∧ w'.cell? ⟨b1, o1 + ir * 3 + 2, none⟩ = some (.slice D1 y1 z1)) (by kernel_rfl) ?_ (fun hHeld => ?_)
      · exact ⟨UP, HOLD.out _ UP⟩
      refine wpAnyH_take (i := 1) (v := ?_) rfl (by kernel_rfl) (by kernel_rfl) (by kernel_rfl) (fun _ _ _ h => h) (Or.inl ⟨by rfl, ?_⟩) (by assumption) ?_
      rotate_left
      · (intro w hSw; (try dsimp only at hSw); go_simp; first | done | with_reducible rfl)
      try simp only [List.getElem_toArray, List.getElem_cons_zero, List.getElem_cons_succ, Act.put, List.setIfInBounds_toArray, List.set_cons_zero, List.set_cons_succ]
      refine wpAnyH_take (i := 2) (v := ?_) rfl (by kernel_rfl) (by kernel_rfl) (by kernel_rfl) (fun _ _ _ h => h) (Or.inl ⟨by rfl, ?_⟩) (by assumption) ?_
      rotate_left
      · (intro w hSw; (try dsimp only at hSw); go_simp; first | done | with_reducible rfl)
      try simp only [List.getElem_toArray, List.getElem_cons_zero, List.getElem_cons_succ, Act.put, List.setIfInBounds_toArray, List.set_cons_zero, List.set_cons_succ]
      refine wpAnyH_take (i := 3) (v := ?_) rfl (by kernel_rfl) (by kernel_rfl) (by kernel_rfl) (fun _ _ _ h => h) (Or.inl ⟨by rfl, ?_⟩) (by assumption) ?_
      rotate_left
      · (intro w hSw; (try dsimp only at hSw); go_simp; first | done | with_reducible rfl)
      try simp only [List.getElem_toArray, List.getElem_cons_zero, List.getElem_cons_succ, Act.put, List.setIfInBounds_toArray, List.set_cons_zero, List.set_cons_succ]
      refine wpAnyH_take (i := 4) (v := ?_) rfl (by kernel_rfl) (by kernel_rfl) (by kernel_rfl) (fun _ _ _ h => h) (Or.inl ⟨by rfl, ?_⟩) (by assumption) ?_
      rotate_left
      · (intro w hSw; (try dsimp only at hSw); go_simp; first | done | with_reducible rfl)
      try simp only [List.getElem_toArray, List.getElem_cons_zero, List.getElem_cons_succ, Act.put, List.setIfInBounds_toArray, List.set_cons_zero, List.set_cons_succ]
      refine wpAnyH_take (i := 5) (v := ?_) rfl (by kernel_rfl) (by kernel_rfl) (by kernel_rfl) (fun _ _ _ h => h) (Or.inl ⟨by rfl, ?_⟩) (by assumption) ?_
      rotate_left
      · (intro w hSw; (try dsimp only at hSw); go_simp; first | done | with_reducible rfl)
      try simp only [List.getElem_toArray, List.getElem_cons_zero, List.getElem_cons_succ, Act.put, List.setIfInBounds_toArray, List.set_cons_zero, List.set_cons_succ]
      refine wpAnyH_take (i := 6) (v := ?_) rfl (by kernel_rfl) (by kernel_rfl) (by kernel_rfl) (fun _ _ _ h => h) (Or.inl ⟨by rfl, ?_⟩) (by assumption) ?_
      rotate_left
      · (intro w hSw; (try dsimp only at hSw); go_simp; first | done | with_reducible rfl)
      try simp only [List.getElem_toArray, List.getElem_cons_zero, List.getElem_cons_succ, Act.put, List.setIfInBounds_toArray, List.set_cons_zero, List.set_cons_succ]
      refine wpAnyH_take (i := 8) (v := ?_) rfl (by kernel_rfl) (by kernel_rfl) (by kernel_rfl) (fun _ _ _ h => h) (Or.inl ⟨by rfl, ?_⟩) (by assumption) ?_
      rotate_left
      · (intro w hSw; (try dsimp only at hSw); go_simp; first | done | with_reducible rfl)
      try simp only [List.getElem_toArray, List.getElem_cons_zero, List.getElem_cons_succ, Act.put, List.setIfInBounds_toArray, List.set_cons_zero, List.set_cons_succ]
      refine wpAnyH_ready (rs := [0]) (by kernel_rfl) (by simp) ?_
      refine AllReadyH.cons rfl (fun K hK => ?_) AllReadyH.nil
      go_simp
      (first
        | (go_at_call 65
           ((with_reducible refine (ref9_int1g _).mono ?_))
           rintro e W1 ⟨V1, rfl, o, u1⟩
           replace FXw := FXw.up u1
           try (replace o := o.up u1)
           try (replace y := y.up u1)
           try (replace z := z.up u1)
           replace UP := UP.trans u1
           clear u1))
      try go_wp2_with fail
      try clear hHeld
      refine hK.out _ _ ?_ (fun hHeld => ?_)
      · exact ⟨UP, HOLD.out _ UP⟩
      clear hK K
      try simp only [List.getElem_toArray, List.getElem_cons_zero, List.getElem_cons_succ, Act.put, List.setIfInBounds_toArray, List.set_cons_zero, List.set_cons_succ]
      refine wpAnyH_ready (rs := [7]) (by kernel_rfl) (by simp) ?_
      refine AllReadyH.cons rfl (fun K hK => ?_) AllReadyH.nil
      go_simp
      (first
        | (go_at_call 100
           ((with_reducible refine (ref9_quo o FXw L1 LT (by omega) (by omega)).mono ?_))
           rintro e W2 ⟨V2, rfl, y, u2⟩
           replace FXw := FXw.up u2
           try (replace o := o.up u2)
           try (replace y := y.up u2)
           try (replace z := z.up u2)
           replace UP := UP.trans u2
           clear u2
           rw [HC.out] at y
           have HUQ := Lib.hid (HUP.out.trans UP)))
      try go_wp2_with fail
      try clear hHeld
      refine hK.out _ _ ?_ (fun hHeld => ?_)
      · exact ⟨UP, HOLD.out _ UP⟩
      clear hK K
      try simp only [List.getElem_toArray, List.getElem_cons_zero, List.getElem_cons_succ, Act.put, List.setIfInBounds_toArray, List.set_cons_zero, List.set_cons_succ]
      refine wpAnyH_ready (rs := [9]) (by kernel_rfl) (by simp) ?_
      refine AllReadyH.cons rfl (fun K hK => ?_) AllReadyH.nil
      go_simp
      (first
        | (go_at_call 42
           ((with_reducible refine (ref_scale14 (Qk.of y LC) ((HMX.out.up UP).q) (by omega) (by omega) (by omega) HE LG).mono ?_))
           rintro e W3 ⟨V3, rfl, z, u3⟩
           obtain ⟨Az, cz, rfl⟩ := z.form
           replace FXw := FXw.up u3
           try (replace o := o.up u3)
           try (replace y := y.up u3)
           try (replace z := z.up u3)
           replace UP := UP.trans u3
           clear u3
           replace z := z.weaken HUQ.out))
      try go_wp2_with fail
      try clear hHeld
      refine hK.out _ _ ?_ (fun hHeld => ?_)
      · exact ⟨UP, HOLD.out _ UP⟩
      clear hK K
      try simp only [List.getElem_toArray, List.getElem_cons_zero, List.getElem_cons_succ, Act.put, List.setIfInBounds_toArray, List.set_cons_zero, List.set_cons_succ]
      refine wpAnyH_take (i := 10) (v := ?_) rfl (by kernel_rfl) (by kernel_rfl) (by kernel_rfl) (fun _ _ _ h => h) (Or.inl ⟨by rfl, ?_⟩) (by assumption) ?_
      rotate_left
      · (intro w hSw; (try dsimp only at hSw); go_simp; first | done | with_reducible rfl)
      try simp only [List.getElem_toArray, List.getElem_cons_zero, List.getElem_cons_succ, Act.put, List.setIfInBounds_toArray, List.set_cons_zero, List.set_cons_succ]
      refine wpAnyH_done (by kernel_rfl) ?_ _
      refine NoPanic.normal ?_
      all_goals
       go_wp2
       go_ret
       exact ⟨_, _, rfl, z, F1.out, HUP.out.trans UP⟩
  · have h1 : 1 ≤ Y.length := List.length_pos_iff.2 h0
    have k1 : (Y.length : Int) > 0 := by omega
    obtain ⟨HG1, hlt⟩ := HRD.out n X Y HG.out h0
    have HG1 := Lib.hid HG1
    have HLT := Lib.hid hlt
    have LG1 := Lib.hid (HSZ.out _ _ _ HG1.out).2.lq
    have hd1 := HDI.out X.length LEN.1
    clear hlt
    go_wp2_with fail
    ((with_reducible refine (ref_div14 MX.q MY.q TR.1 TR.2 h0 (by omega) (by omega) (by omega) (by omega) SZ.1 SZ.2 hd1 (by omega) hz3).mono ?_))
    rintro e W3 ⟨V3, R3, rfl, MQ, MR, u3⟩
    have MR := QRow.re (k := Z) MR LG1.out
    have MY := MY.up u3
    obtain ⟨T9, t9, rfl⟩ := MR.form
    clear LEN SZ TR MX MQ
    go_wp2_with fail
    go_roundw
    case rel => exact ⟨n + 1, _, _, HG1, MY, MR.weaken UP, UP.trans u3⟩
    case measure => exact HLT.out
end Go.Proofs.YtmmcffceeahemaaGreat
