/-
  Polynomials, plain: the common divisor as the document goes to it: the rests are multiples of the right ones.
  Layer 14, the document's answers: the common divisor.
  Quotients of polynomials, plain: cancelled, summed up, multiplied, derived; and how long they get.
-/
import Derived.Test.YtmmcffceeahemaaGreatZsRefDivMath2
import Derived.Test.YtmmcffceeahemaaGreatZsShort
import Derived.Test.YtmmcffceeahemaaGreatZsRefPoly6
import Derived.Test.YtmmcffceeahemaaGreatZsPolyPlain
import Derived.Test.YtmmcffceeahemaaGreatZsPolyRaw
set_option linter.unusedVariables false
set_option linter.unusedSimpArgs false
namespace Pq
theorem sc_sc (c d : Rat) (p : List Rat) : sc c (sc d p) = sc (c * d) p := by
 unfold sc
 rw [List.map_map]
 exact List.map_congr_left fun q _ => (Rat.mul_assoc ..).symm
theorem sc_nil_iff {c : Rat} {p : List Rat} : sc c p = [] ↔ p = [] := by unfold sc; exact List.map_eq_nil_iff
theorem sc_tr {c : Rat} {p : List Rat} (hc : c ≠ 0) (h : Tr p) : Tr (sc c p) := by
 rcases h with rfl | h
 · exact .inl rfl
 · refine .inr ?_
   rw [sc_len, sc_getD]
   exact fun e => (Rat.mul_eq_zero.1 e).elim hc h
/-- The highest one, or 1 where there is none. -/
def top (p : List Rat) : Rat := if p = [] then 1 else p.getD (p.length - 1) 0
theorem top_nz {p : List Rat} (h : Tr p) : top p ≠ 0 := by
 unfold top
 split
 · decide
 · next hn => exact h.elim (fun k => absurd k hn) id
theorem top_mo {p : List Rat} (h : Tr p) : sc (top p) (mo p) = p := by
 have hz := top_nz h
 by_cases hn : p = []
 · subst hn; rfl
 · have e : top p = p.getD (p.length - 1) 0 := by unfold top; rw [if_neg hn]
   unfold mo
   rw [← e, sc_sc, Rat.div_def, Rat.one_mul, Rat.mul_inv_cancel _ hz, sc_one]
theorem top_lq {p : List Rat} {k : Nat} (h : Lp p k) : Wd.Lq (top p) k := by
 unfold top
 split
 · have c1 : Cm 1 1 1 := ⟨1, by simp, by decide⟩
   exact (c1.lq (k := 1) (by omega) (by rw [Nat.pow_one]; have := B2; omega) (by rw [Nat.pow_one]; have := B2; omega) (by omega)).mono h.one_le
 · next hn =>
   have := List.length_pos_iff.2 hn
   rw [getD_at (by omega : p.length - 1 < p.length)]
   exact h.lq _ (List.getElem_mem _)
theorem ln_sc {c : Rat} (hc : c ≠ 0) (p : List Rat) : ln (sc c p) = ln p := by
 have h1 := ln_sc_le c p
 have h2 := ln_sc_le c⁻¹ (sc c p)
 rw [sc_sc, Rat.inv_mul_cancel _ hc, sc_one] at h2
 omega
theorem dr_scs {a b : List Rat} {k l : Rat} (hk : k ≠ 0) (hl : l ≠ 0) (hb : nm b ≠ []) : dr (sc k a) (sc l b) = sc k (dr a b) := by
 have hb2 : nm (sc l b) ≠ [] := fun e => by
  have h1 := ln_sc hl b
  have h2 := ln_pos hb
  rw [ln_nil e] at h1
  omega
 have h1 := dqr_div (p := a) (q := b) hb
 have h2 := dqr_div (p := sc k a) (q := sc l b) hb2
 have h3 : IsDiv (sc k a) (sc l b) (sc (k * l⁻¹) (dq a b)) (sc k (dr a b)) := by
  refine ⟨fun x => ?_, ?_⟩
  · rw [E_sc, E_sc, E_sc, E_sc, h1.1 x]
    have : l⁻¹ * l = 1 := Rat.inv_mul_cancel _ hl
    grind
  · have e1 := ln_sc hk (dr a b)
    have e2 := ln_sc hl b
    have := h1.2
    unfold ln at e1 e2
    omega
 have := (IsDiv.unique h2 h3).2
 rwa [nm_of_tr (dr_tr _ _), nm_of_tr (sc_tr hk (dr_tr _ _))] at this
/-- Both, behind so many rounds, with what they are multiplied by. -/
def Gk (x y : List Rat) (D m n : Nat) (X Y : List Rat) : Prop := (∀ i, i < n → (gst x y i).2 ≠ []) ∧ n + Y.length ≤ m ∧ ∃ k l, k ≠ 0 ∧ l ≠ 0 ∧ X = sc k (gst x y n).1 ∧ Y = sc l (gst x y n).2 ∧ Wd.Lq k (D * (n + 1)) ∧ Wd.Lq l (D * (n + 1))
theorem Gk.start {x y : List Rat} {j D m : Nat} (hx : Lp x j) (hy : Lp y j) (hD : j ≤ D) (hm : y.length ≤ m) : Gk x y D m 0 (nm x) (nm y) := by
 refine ⟨fun i hi => absurd hi (Nat.not_lt_zero _), by have := nm_len y; omega, top (nm x), top (nm y), top_nz (tr_nm x), top_nz (tr_nm y), (top_mo (tr_nm x)).symm, (top_mo (tr_nm y)).symm, (top_lq hx.nm).mono (by omega), (top_lq hy.nm).mono (by omega)⟩
theorem Gk.tr {x y X Y : List Rat} {D m n : Nat} (h : Gk x y D m n X Y) : Tr X ∧ Tr Y := by
 obtain ⟨_, _, k, l, hk, hl, rfl, rfl, _, _⟩ := h
 exact ⟨sc_tr hk (gst_mo x y n).1.tr, sc_tr hl (gst_mo x y n).2.tr⟩
theorem Gk.len {x y X Y : List Rat} {D m n : Nat} (hx : x.length ≤ m) (hy : y.length ≤ m) (h : Gk x y D m n X Y) : X.length ≤ m ∧ Y.length ≤ m := by
 obtain ⟨h1, _, k, l, hk, hl, rfl, rfl, _, _⟩ := h
 rw [sc_len, sc_len]
 exact gst_len x y hx hy n h1
theorem Gk.size {x y X Y : List Rat} {D m n K : Nat} (HK : ∀ n, (∀ i, i < n → (gst x y i).2 ≠ []) → Lp (gst x y n).1 K ∧ Lp (gst x y n).2 K) (h : Gk x y D m n X Y) : Lp X (D * (m + 1) + K) ∧ Lp Y (D * (m + 1) + K) := by
 obtain ⟨h1, h2, k, l, hk, hl, rfl, rfl, h3, h4⟩ := h
 have hm : D * (n + 1) ≤ D * (m + 1) := Nat.mul_le_mul_left _ (by omega)
 exact ⟨(Lp.sc h3 (HK n h1).1).mono (by omega), (Lp.sc h4 (HK n h1).2).mono (by omega)⟩
theorem Gk.round {x y X Y : List Rat} {D m n K : Nat} (hx : x.length ≤ m) (hy : y.length ≤ m) (HK : ∀ n, (∀ i, i < n → (gst x y i).2 ≠ []) → Lp (gst x y n).1 K ∧ Lp (gst x y n).2 K) (hD : K + (m + 1) * (K + 1) ≤ D) (h : Gk x y D m n X Y) (hne : Y ≠ []) : Gk x y D m (n + 1) Y (dr X Y) ∧ (dr X Y).length < Y.length := by
 have hlen := h.len hx hy
 obtain ⟨h1, h2, k, l, hk, hl, rfl, rfl, h3, h4⟩ := h
 have hn2 : (gst x y n).2 ≠ [] := fun e => hne (by rw [e]; rfl)
 have hmo := gst_mo x y n
 have hb : nm (gst x y n).2 ≠ [] := by rw [nm_of_tr hmo.2.tr]; exact hn2
 have hn1 : ∀ i, i < n + 1 → (gst x y i).2 ≠ [] := fun i hi => by
  rcases Nat.lt_or_ge i n with hh | hh
  · exact h1 i hh
  · obtain rfl : i = n := by omega
    exact hn2
 have e1 := dr_scs (a := (gst x y n).1) hk hl hb
 have e2 := top_mo (dr_tr (gst x y n).1 (gst x y n).2)
 have hs := dr_size (HK n h1).1 (HK n h1).2 hmo.1.tr hmo.2.tr hn2
 have hlt : (sc k (dr (gst x y n).1 (gst x y n).2)).length < (sc l (gst x y n).2).length := by
  have := gst_less hn2
  rw [sc_len, sc_len, ← mo_len]
  exact this
 have ht : Wd.Lq (top (dr (gst x y n).1 (gst x y n).2)) D := (top_lq hs).mono (by
  have : ((gst x y n).1.length - (gst x y n).2.length + 1) * (K + 1) ≤ (m + 1) * (K + 1) := Nat.mul_le_mul_right _ (by have := hlen.1; rw [sc_len] at this; omega)
  omega)
 rw [e1]
 refine ⟨⟨hn1, by omega, l, k * top (dr (gst x y n).1 (gst x y n).2), hl, fun e => (Rat.mul_eq_zero.1 e).elim hk (top_nz (dr_tr _ _)), rfl, ?_, h4.mono (Nat.mul_le_mul_left _ (by omega)), (h3.mul ht).mono (by rw [Nat.mul_succ D (n + 1)]; omega)⟩, hlt⟩
 show sc k (dr (gst x y n).1 (gst x y n).2) = sc (k * top (dr (gst x y n).1 (gst x y n).2)) (mo (dr (gst x y n).1 (gst x y n).2))
 rw [← sc_sc, e2]
/-- What comes back. -/
theorem Gk.fin {x y X : List Rat} {D m n : Nat} (h : Gk x y D m n X []) : IsGcd x y (gst x y n).1 ∧ (X = [] → (gst x y n).1 = []) ∧ (X ≠ [] → nm (sc (1 / X.getD (X.length - 1) 0) X) = (gst x y n).1) := by
 obtain ⟨h1, h2, k, l, hk, hl, rfl, e, h3, h4⟩ := h
 have hmo := gst_mo x y n
 have h0 : (gst x y n).2 = [] := sc_nil_iff.1 e.symm
 refine ⟨IsGcd.of_span (by have := gst_span x y n h1; rwa [h0] at this) hmo.1, fun e => sc_nil_iff.1 e, fun hn => ?_⟩
 have hn1 : (gst x y n).1 ≠ [] := fun e => hn (by rw [e]; rfl)
 have ht : (gst x y n).1.getD ((gst x y n).1.length - 1) 0 = 1 := hmo.1.elim (fun k => absurd k hn1) id
 rw [sc_len, sc_getD, ht, Rat.mul_one, sc_sc, Rat.div_def, Rat.one_mul, Rat.inv_mul_cancel _ hk, sc_one, nm_of_tr hmo.1.tr]
end Pq
namespace Go.Proofs.YtmmcffceeahemaaGreat
open Go.RowKit
theorem ref9_int1g (w : World) : Calls Tryz.prog 65 #[.int .i64 1] w (RetQ 1 w) := ref9_int (n := 1) (by omega) w
theorem Qk.of {k : Nat} {w : World} {v : Value} {q : Rat} (h : Qw w v q) (hk : Wd.Lq q k) : Qk k w v q := ⟨h, hk⟩
/-- What comes back: the common divisor. -/
def RetGQ (K : Nat) (x y : List Rat) (w : World) (e : Ending) (w' : World) : Prop := ∃ V g, e = .returned V ∧ QRow K w w' V g ∧ Pq.IsGcd x y g ∧ Up w w'
set_option maxRecDepth 100000 in
set_option maxHeartbeats 12800000 in
theorem ref_gcd14 {v u : Value} {x y : List Rat} {ka kb j m D K Z : Nat} {w : World} (h : QSq ka w v x) (h2 : QSq kb w u y) (hx : x.length ≤ m) (hy : y.length ≤ m) (hm : m ≤ 299) (LX : Pq.Lp x j) (LY : Pq.Lp y j) (hjD : j ≤ D) (HK : Hid (∀ n, (∀ i, i < n → (Pq.gst x y i).2 ≠ []) → Pq.Lp (Pq.gst x y n).1 K ∧ Pq.Lp (Pq.gst x y n).2 K)) (hD : K + (m + 1) * (K + 1) ≤ D) (hZ : D * (m + 1) + K = Z) (hZZ : Z + Z + (m + 1) * (Z + 1) + Z + Z + 10 ≤ 2400000) (hka : ka ≤ Z) (hkb : kb ≤ Z) :
 Calls Tryz.prog 47 #[v, u] w (RetGQ K x y w) := by
 have HST := Lib.hid (Pq.Gk.start (m := m) LX LY hjD hy)
 have HTR : Hid (∀ n X Y, Pq.Gk x y D m n X Y → Pq.Tr X ∧ Pq.Tr Y) := Lib.hid (fun n X Y h => h.tr)
 have HLE : Hid (∀ n X Y, Pq.Gk x y D m n X Y → X.length ≤ m ∧ Y.length ≤ m) := Lib.hid (fun n X Y h => h.len hx hy)
 have HSZ : Hid (∀ n X Y, Pq.Gk x y D m n X Y → Pq.Lp X Z ∧ Pq.Lp Y Z) := Lib.hid (fun n X Y h => by have := h.size HK.out; rwa [hZ] at this)
 have HRD : Hid (∀ n X Y, Pq.Gk x y D m n X Y → Y ≠ [] → Pq.Gk x y D m (n + 1) Y (Pq.dr X Y) ∧ (Pq.dr X Y).length < Y.length) := Lib.hid (fun n X Y h hne => h.round hx hy HK.out hD hne)
 have HFI : Hid (∀ n X, Pq.Gk x y D m n X [] → Pq.IsGcd x y (Pq.gst x y n).1 ∧ (X = [] → (Pq.gst x y n).1 = []) ∧ (X ≠ [] → Pq.nm (Pq.sc (1 / X.getD (X.length - 1) 0) X) = (Pq.gst x y n).1)) := Lib.hid (fun n X h => h.fin)
 have HGK : Hid (∀ n, (∀ i, i < n → (Pq.gst x y i).2 ≠ []) → ∀ q ∈ (Pq.gst x y n).1, Wd.Lq q K) := Lib.hid (fun n hn => (HK.out n hn).1.lq)
 have HLQX : Hid (∀ q ∈ Pq.nm x, Wd.Lq q Z) := Lib.hid (fun q hq => (h.lq q (Pq.nm_mem hq)).mono hka)
 have HLQY : Hid (∀ q ∈ Pq.nm y, Wd.Lq q Z) := Lib.hid (fun q hq => (h2.lq q (Pq.nm_mem hq)).mono hkb)
 have hZ9 : Z ≤ 2400000 := by omega
 have HDI : Hid (∀ l, l ≤ m → Z + Z + (l + 1) * (Z + 1) ≤ Z + Z + (m + 1) * (Z + 1)) := Lib.hid (fun l hl => by
  have : (l + 1) * (Z + 1) ≤ (m + 1) * (Z + 1) := Nat.mul_le_mul_right _ (by omega)
  omega)
 obtain ⟨Z2, hZ2⟩ : ∃ Z2, Z2 = Z + Z + (m + 1) * (Z + 1) := ⟨_, rfl⟩
 rw [← hZ2] at hZZ HDI
 have hz3 : Z ≤ Z2 := by omega
 obtain ⟨A, cv, rfl⟩ := h.form
 obtain ⟨B, cu, rfl⟩ := h2.form
 have H := Lib.hid h
 have H2 := Lib.hid h2
 clear h h2 LX LY hD hZ hZ2 HK
 go_enter Tryz.func47, Tryz.ntmps47
 go_wp2_with fail
 ((with_reducible refine (rnorm_as H.out (by omega) (by omega) (Lib.hid rfl)).mono ?_))
 rintro e W1 ⟨V1, rfl, R1, u1⟩
 have R1 := QRow.re (k := Z) R1 HLQX.out
 go_wp2_with fail
 ((with_reducible refine (rnorm_as (H2.out.up u1) (by omega) (by omega) (Lib.hid rfl)).mono ?_))
 rintro e W2 ⟨V2, rfl, R2, u2⟩
 have R2 := QRow.re (k := Z) R2 HLQY.out
 have HR1 := Lib.hid (R1.up u2)
 have HR2 := Lib.hid (R2.weaken u1)
 have HU := Lib.hid (u1.trans u2)
 clear R1 R2 u1 u2
 go_wp2_with fail
 go_loopw [5, 6, 7, 8] (fun s5 s6 _ _ wr => ∃ (n : Nat) (X Y : List Rat), Hid (Pq.Gk x y D m n X Y) ∧ QRow Z w wr s5 X ∧ QRow Z w wr s6 Y ∧ Up w wr) (fun _ s6 _ _ _ => lenV s6)
 case atStart => exact ⟨0, _, _, HST, HR1.out, HR2.out, HU.out⟩
 case round =>
  clear HR1 HR2 HU HST
  obtain ⟨n, X, Y, HG, MX, MY, UP⟩ := hrel
  obtain ⟨D5, d5, rfl⟩ := MX.form
  obtain ⟨D6, d6, rfl⟩ := MY.form
  have LEN := HLE.out n X Y HG.out
  have SZ := HSZ.out n X Y HG.out
  have TR := HTR.out n X Y HG.out
  by_cases h0 : Y = []
  · subst h0
    obtain ⟨F1, F2, F3⟩ := HFI.out n X HG.out
    have F1 := Lib.hid F1
    have LG := Lib.hid (HGK.out n HG.out.1)
    have lx := LEN.1
    have LXX := Lib.hid SZ.1.lq
    clear LEN SZ TR
    by_cases hX : X = []
    · have hl0 : X.length = 0 := by rw [hX]; rfl
      have HE := Lib.hid (hX.trans (F2 hX).symm)
      have hx0 : ((X.length : Int) == 0) = true := by simp [hl0]
      clear hX F2 F3
      go_wp2
      go_ret
      exact ⟨_, _, rfl, (MX.own_q HE.out).re LG.out, F1.out, UP⟩
    · have hl0 : 1 ≤ X.length := List.length_pos_iff.2 hX
      have HE := Lib.hid (F3 hX)
      have hx0 : ((X.length : Int) == 0) = false := by simp [hX]
      clear hX F2 F3
      have hr1 : X.length - 1 < X.length := by omega
      obtain ⟨b1, o1, s1, B1, x1, f1, D1, y1, z1, e1, hb1', g1, g2, g3, FX0⟩ := Sq.at_ (kp_qk Z) MX.q.sq hr1
      subst e1
      have FX : Qk Z wr (.agg #[.bool s1, .slice B1 x1 f1, .slice D1 y1 z1]) X[X.length - 1] := FX0
      have LT := LXX.out _ (List.getElem_mem hr1)
      have hat : X.getD (X.length - 1) 0 = X[X.length - 1] := Pq.getD_at hr1
      rw [hat] at HE
      clear hat FX0
      have hw1 : IntKind.i64.wrap ((X.length : Int) - 1) = ((X.length - 1 : Nat) : Int) := by rw [IntKind.wrap_i64]; omega
      have q1 : ((X.length - 1 : Nat) : Int) < (X.length : Int) := by omega
      have q3 : (0 : Int) ≤ ((X.length - 1 : Nat) : Int) := by omega
      have q5 : (((X.length - 1 : Nat) : Int)).toNat = X.length - 1 := by omega
      have FXw := FX.qw
      clear FX
      generalize X[X.length - 1] = t at *
      generalize X.length - 1 = ir at *
      obtain ⟨c, HC⟩ : ∃ c, Hid (1 / t = c) := ⟨_, Lib.hid rfl⟩
      have L1 : Wd.Lq (1 : Rat) 2 := lq_int (n := 1) (by omega)
      have LC : Wd.Lq c (2 + Z) := by rw [← HC.out]; exact L1.div LT
      rw [HC.out] at HE
      obtain ⟨g, HGG⟩ : ∃ g, Hid ((Pq.gst x y n).1 = g) := ⟨_, Lib.hid rfl⟩
      rw [HGG.out] at HE F1 LG
      have HOLD : Hid (∀ w', Up wr w' → w'.cell? ⟨b1, o1 + ir * 3, none⟩ = some (.bool s1) ∧ w'.cell? ⟨b1, o1 + ir * 3 + 1, none⟩ = some (.slice B1 x1 f1) ∧ w'.cell? ⟨b1, o1 + ir * 3 + 2, none⟩ = some (.slice D1 y1 z1)) := Lib.hid (fun w' up => ⟨up.keeps g1, up.keeps g2, up.keeps g3⟩)
      clear g1 g2 g3
      have HMX := Lib.hid MX
      have HUP := Lib.hid UP
      clear MX MY UP
      have UP : Up wr wr := Up.refl wr
      go_wp2_with fail
      refine li2 (Up.refl wr).drew FXw UP ?_; clear FXw UP; intro FXw UP
      refine wp_region_noPanic ?_
      refine wp_region_held_drew (S := fun w' => Up wr w' ∧ w'.cell? ⟨b1, o1 + ir * 3, none⟩ = some (.bool s1) ∧ w'.cell? ⟨b1, o1 + ir * 3 + 1, none⟩ = some (.slice B1 x1 f1) ∧ w'.cell? ⟨b1, o1 + ir * 3 + 2, none⟩ = some (.slice D1 y1 z1)) (by kernel_rfl) ?_ (fun hHeld => ?_)
      · exact ⟨UP, HOLD.out _ UP⟩
      refine tk 1 ?_
      try simp only [gs, Act.put]
      refine tk 2 ?_
      try simp only [gs, Act.put]
      refine tk 3 ?_
      try simp only [gs, Act.put]
      refine tk 4 ?_
      try simp only [gs, Act.put]
      refine tk 5 ?_
      try simp only [gs, Act.put]
      refine tk 6 ?_
      try simp only [gs, Act.put]
      refine tk 8 ?_
      try simp only [gs, Act.put]
      refine rd 0 (fun K hK => ?_)
      go_simp
      (first
        | (go_at_call 65
           ((with_reducible refine (ref9_int1g _).mono ?_))
           rintro e W1 ⟨V1, rfl, o, u1⟩
           revert FXw UP; refine lg2 u1 ?_; intro FXw UP
           try (replace o := o.up u1)
           try (replace y := y.up u1)
           try (replace z := z.up u1)
           clear u1))
      try go_wp2_with fail
      try clear hHeld
      refine hK.out _ _ ?_ (fun hHeld => ?_)
      · exact ⟨UP, HOLD.out _ UP⟩
      clear hK K
      try simp only [gs, Act.put]
      refine rd 7 (fun K hK => ?_)
      go_simp
      (first
        | (go_at_call 100
           ((with_reducible refine (ref9_quo o FXw L1 LT (by omega) (by omega)).mono ?_))
           rintro e W2 ⟨V2, rfl, y, u2⟩
           revert FXw UP; refine lg2 u2 ?_; intro FXw UP
           try (replace o := o.up u2)
           try (replace y := y.up u2)
           try (replace z := z.up u2)
           clear u2
           rw [HC.out] at y
           have HUQ := Lib.hid (HUP.out.trans UP)))
      try go_wp2_with fail
      try clear hHeld
      refine hK.out _ _ ?_ (fun hHeld => ?_)
      · exact ⟨UP, HOLD.out _ UP⟩
      clear hK K
      try simp only [gs, Act.put]
      refine rd 9 (fun K hK => ?_)
      go_simp
      (first
        | (go_at_call 42
           ((with_reducible refine (ref_scale14 (Qk.of y LC) ((HMX.out.up UP).q) (by omega) (by omega) (by omega) HE LG).mono ?_))
           rintro e W3 ⟨V3, rfl, z, u3⟩
           obtain ⟨Az, cz, rfl⟩ := z.form
           revert FXw UP; refine lg2 u3 ?_; intro FXw UP
           try (replace o := o.up u3)
           try (replace y := y.up u3)
           try (replace z := z.up u3)
           clear u3
           replace z := z.weaken HUQ.out))
      try go_wp2_with fail
      try clear hHeld
      refine hK.out _ _ ?_ (fun hHeld => ?_)
      · exact ⟨UP, HOLD.out _ UP⟩
      clear hK K
      try simp only [gs, Act.put]
      refine tk 10 ?_
      try simp only [gs, Act.put]
      refine wpAnyH_done (by kernel_rfl) ?_ _
      refine NoPanic.normal ?_
      all_goals
       go_wp2
       go_ret
       exact ⟨_, _, rfl, z, F1.out, HUP.out.trans UP⟩
  · have h1 : 1 ≤ Y.length := List.length_pos_iff.2 h0
    have k1 : (Y.length : Int) > 0 := by omega
    obtain ⟨HG1, hlt⟩ := HRD.out n X Y HG.out h0
    have HG1 := Lib.hid HG1
    have HLT := Lib.hid hlt
    have LG1 := Lib.hid (HSZ.out _ _ _ HG1.out).2.lq
    have hd1 := HDI.out X.length LEN.1
    clear hlt
    go_wp2_with fail
    ((with_reducible refine (ref_div14 MX.q MY.q TR.1 TR.2 h0 (by omega) (by omega) (by omega) (by omega) SZ.1 SZ.2 hd1 (by omega) hz3).mono ?_))
    rintro e W3 ⟨V3, R3, rfl, MQ, MR, u3⟩
    have MR := QRow.re (k := Z) MR LG1.out
    have MY := MY.up u3
    obtain ⟨T9, t9, rfl⟩ := MR.form
    clear LEN SZ TR MX MQ
    go_wp2_with fail
    go_roundw
    case rel => exact ⟨n + 1, _, _, HG1, MY, MR.weaken UP, UP.trans u3⟩
    case measure => exact HLT.out
end Go.Proofs.YtmmcffceeahemaaGreat
namespace Pq
/-- Both parts; of a quotient by 0: 0 over 1. -/
def pu (p q : List Rat) : List Rat := if nm q = [] then [] else p
def pd (p q : List Rat) : List Rat := if nm q = [] then [1] else q
theorem nm_one : nm [1] = [1] := nm_of_tr (Mo.tr (g := [1]) (.inr rfl))
theorem pd_ne (p q : List Rat) : nm (pd p q) ≠ [] := by
 unfold pd
 split
 · rw [nm_one]; simp
 · rename_i h; exact h
theorem pu_of {p q : List Rat} (h : nm q ≠ []) : pu p q = p := if_neg h
theorem pd_of {p q : List Rat} (h : nm q ≠ []) : pd p q = q := if_neg h
theorem pu_len (p q : List Rat) : (pu p q).length ≤ p.length := by unfold pu; split <;> simp
theorem pd_len (p q : List Rat) : (pd p q).length ≤ max 1 q.length := by unfold pd; split <;> (try simp only [List.length_cons, List.length_nil]) <;> omega
theorem pud_lp {p q : List Rat} {u : Nat} (h : Lp (p ++ q) u) : Lp (pu p q ++ pd p q) u := by
 unfold pu pd
 split
 · exact lp_one_row.mono h.one_le
 · exact h
theorem Lp.fst {p q : List Rat} {u : Nat} (h : Lp (p ++ q) u) : Lp p u := h.sub fun x hx => List.mem_append.2 (.inl hx)
theorem Lp.snd {p q : List Rat} {u : Nat} (h : Lp (p ++ q) u) : Lp q u := h.sub fun x hx => List.mem_append.2 (.inr hx)
theorem Lp.swap {p q : List Rat} {u : Nat} (h : Lp (p ++ q) u) : Lp (q ++ p) u := h.sub fun x hx => List.mem_append.2 (List.mem_append.1 hx).symm
theorem cm_mul {d e N M : Nat} {p q : List Rat} (hp : ∀ x ∈ p, Cm d N x) (hq : ∀ x ∈ q, Cm e M x) : ∀ x ∈ nm (mul p q), Cm (d * e) (p.length * (N * M)) x := fun x hx => by
 rw [← nm_mall] at hx
 obtain ⟨n, hn, rfl⟩ := List.getElem_of_mem (nm_mem hx)
 have := mall_cm hp hq p.length n
 rwa [List.getD_eq_getElem?_getD, List.getElem?_eq_getElem hn] at this
theorem cm_add {d N M : Nat} {p q : List Rat} (hp : ∀ x ∈ p, Cm d N x) (hq : ∀ x ∈ q, Cm d M x) : ∀ x ∈ nm (add p q), Cm d (N + M) x := fun x hx => by
 obtain ⟨i, rfl⟩ := add_mem (nm_mem hx)
 exact (getD_cm hp i).add (getD_cm hq i)
theorem cm_len {d N n m : Nat} {x : Rat} (h : Cm d (n * N) x) (hn : n ≤ m) : Cm d (m * N) x := h.mono (Nat.mul_le_mul_right _ hn)
theorem lpj {d e N M j k c : Nat} {p : List Rat} (d0 : d ≠ 0) (e0 : e ≠ 0) (hd : d < Wd.B ^ j) (he : e < Wd.B ^ k) (hN : N < Wd.B ^ j) (hM : M < Wd.B ^ k) (hc : c ≤ 4000000000) (h : ∀ x ∈ p, Cm (d * e) (c * (N * M)) x) : Lp p (j + k + 1) :=
 ⟨d * e, Nat.mul_ne_zero d0 e0, Nat.lt_of_lt_of_le (pow_mul_lt hd he) (Nat.pow_le_pow_right Wd.B_pos (by omega)), c * (N * M), count_lt (by rw [Wd.B_eq]; omega) (pow_mul_lt hN hM) Wd.B_pos, h⟩
/-- The sum of two quotients: what is cancelled. -/
def au (u d v e : List Rat) : List Rat := nm (add (nm (mul u e)) (nm (mul v d)))
theorem lp_sum {u d v e : List Rat} {j k : Nat} (h : Lp (u ++ d) j) (h' : Lp (v ++ e) k) (lu : u.length ≤ 1000) (ld : d.length ≤ 1000) (lv : v.length ≤ 1000) : Lp (au u d v e ++ nm (mul d e)) (j + k + 1) := by
 obtain ⟨d0, h1, h2, N, h3, h4⟩ := h
 obtain ⟨e0, k1, k2, M, k3, k4⟩ := h'
 have cu : ∀ x ∈ u, Cm d0 N x := fun x hx => h4 x (List.mem_append.2 (.inl hx))
 have cd : ∀ x ∈ d, Cm d0 N x := fun x hx => h4 x (List.mem_append.2 (.inr hx))
 have cv : ∀ x ∈ v, Cm e0 M x := fun x hx => k4 x (List.mem_append.2 (.inl hx))
 have ce : ∀ x ∈ e, Cm e0 M x := fun x hx => k4 x (List.mem_append.2 (.inr hx))
 refine lpj (c := 2000) h1 k1 h2 k2 h3 k3 (by omega) fun x hx => ?_
 rcases List.mem_append.1 hx with hx | hx
 · have m1 : ∀ y ∈ nm (mul u e), Cm (d0 * e0) (1000 * (N * M)) y := fun y hy => cm_len (cm_mul cu ce y hy) lu
   have m2 : ∀ y ∈ nm (mul v d), Cm (d0 * e0) (1000 * (N * M)) y := fun y hy => by
    have := cm_len (cm_mul cv cd y hy) lv
    rwa [Nat.mul_comm e0, Nat.mul_comm M] at this
   have := cm_add m1 m2 x hx
   rwa [← Nat.add_mul] at this
 · exact cm_len (cm_mul cd ce x hx) (by omega)
theorem lp_prod {u d v e : List Rat} {j k : Nat} (h : Lp (u ++ d) j) (h' : Lp (v ++ e) k) (lu : u.length ≤ 1000) (ld : d.length ≤ 1000) : Lp (nm (mul u v) ++ nm (mul d e)) (j + k + 1) := by
 obtain ⟨d0, h1, h2, N, h3, h4⟩ := h
 obtain ⟨e0, k1, k2, M, k3, k4⟩ := h'
 refine lpj (c := 2000) h1 k1 h2 k2 h3 k3 (by omega) fun x hx => ?_
 rcases List.mem_append.1 hx with hx | hx
 · exact cm_len (cm_mul (fun x hx => h4 x (List.mem_append.2 (.inl hx))) (fun x hx => k4 x (List.mem_append.2 (.inl hx))) x hx) (by omega)
 · exact cm_len (cm_mul (fun x hx => h4 x (List.mem_append.2 (.inr hx))) (fun x hx => k4 x (List.mem_append.2 (.inr hx))) x hx) (by omega)
/-- The derivative of a quotient: what is cancelled. -/
def du (u d : List Rat) : List Rat := nm (sub (nm (mul (nm (df u)) d)) (nm (mul u (nm (df d)))))
theorem E_au (u d v e : List Rat) (x : Rat) : E (au u d v e) x = E u x * E e x + E v x * E d x := by unfold au; rw [E_nm, E_add, E_nm, E_nm, E_mul, E_mul]
theorem E_nmul (u d : List Rat) (x : Rat) : E (nm (mul u d)) x = E u x * E d x := by rw [E_nm, E_mul]
theorem nmul_ne {p q : List Rat} (hp : nm p ≠ []) (hq : nm q ≠ []) : nm (nm (mul p q)) ≠ [] := by
 rw [nm_nm]
 intro e
 have h1 := ln_mul hp hq
 rw [ln_nil e] at h1
 have := ln_pos hp
 have := ln_pos hq
 omega
theorem can_of {p q g p' q' : List Rat} (hq : nm q ≠ []) (hg : In p q g) (gne : nm g ≠ []) (hp' : ∀ x, E p x = E p' x * E g x) (hq' : ∀ x, E q x = E q' x * E g x) {c : Rat} (hc : c = 1 / (nm q').getD ((nm q').length - 1) 0) : Can p q (nm (sc c p')) (nm (sc c (nm q'))) := by
 obtain ⟨s, t, hst⟩ := hg
 have hn : nm q' ≠ [] := fun e => hq (nm_nil fun x => by rw [hq', E_of_nil e, Rat.zero_mul])
 have ht := tr_nm q'
 have hm := nm_mo ht
 rw [← hc] at hm
 have htop : (nm q').getD ((nm q').length - 1) 0 ≠ 0 := by
  rcases ht with e | e
  · exact absurd e hn
  · exact e
 have hi := Rat.inv_mul_cancel _ htop
 rw [Rat.div_def, Rat.one_mul] at hc
 rw [← hc] at hi
 refine ⟨tr_nm _, by rw [hm]; exact mo_mo ht, fun e => ?_, fun x => ?_, sc ((nm q').getD ((nm q').length - 1) 0) s, sc ((nm q').getD ((nm q').length - 1) 0) t, fun x => ?_⟩
 · rw [hm] at e
   have := congrArg List.length e
   rw [mo_len] at this
   exact hn (List.eq_nil_of_length_eq_zero this)
 · rw [E_nm, E_sc, E_nm, E_sc, E_nm, hp', hq']
   grind
 · generalize (nm q').getD ((nm q').length - 1) 0 = τ at *
   have h1 : ∀ x, E (add (mul s p') (mul t q')) x = E [1] x := mul_cancel (r := g) (fun x => by
    have := hst x
    rw [hp', hq'] at this
    rw [E_add, E_mul, E_mul, E_one]
    grind) gne
   have h2 := h1 x
   rw [E_add, E_mul, E_mul, E_one] at h2
   rw [E_sc, E_sc, E_nm, E_nm, E_sc, E_sc, E_nm]
   calc _ = (c * τ) * (E s x * E p' x + E t x * E q' x) := by grind
    _ = 1 := by rw [hi, h2, Rat.one_mul]
theorem div_exact {a g : List Rat} (h : Dv g a) (hne : g ≠ []) (hm : Mo g) (x : Rat) : E a x = E (dq a g) x * E g x := by
 have hd := dqr_div (p := a) (q := g) (by rw [nm_of_tr hm.tr]; exact hne)
 rw [hd.1 x, E_of_nil (hd.exact h), Rat.add_zero]
theorem gcd_one {g : List Rat} (hm : Mo g) (hn : g ≠ []) (hl : ln g ≤ 1) (x : Rat) : E g x = 1 := by
 rw [ln_tr hm.tr] at hl
 match g, hn, hl, hm with
 | [a], _, _, .inr e =>
   have e : a = 1 := by simpa using e
   rw [e]; exact E_one x
theorem Can.self {p q U D : List Rat} (h : Can p q U D) : Can U D U D := ⟨h.tr, h.mo, h.ne, fun x => rfl, h.cop⟩
theorem Can.nd {p q U D : List Rat} (h : Can p q U D) : nm D ≠ [] := by rw [nm_of_tr h.mo.tr]; exact h.ne
theorem Can.turn {p q U D p' q' : List Rat} (hq : nm q ≠ []) (h : Can p q U D) (he : ∀ x, E p x * E q' x = E p' x * E q x) : Can p' q' U D :=
 ⟨h.tr, h.mo, h.ne, fun x => by
   have := mul_cancel (p := mul U q') (q := mul p' D) (r := q) (fun x => by
    have e1 := h.eq x
    have e2 := he x
    rw [E_mul, E_mul]
    calc E U x * E q' x * E q x = (E U x * E q x) * E q' x := by grind
     _ = (E p x * E q' x) * E D x := by rw [e1]; grind
     _ = _ := by rw [e2]; grind) hq x
   rwa [E_mul, E_mul] at this, h.cop⟩
theorem Can.dvd {p q U D : List Rat} (h : Can p q U D) : Dv D q := by
 obtain ⟨s, t, e⟩ := h.cop
 refine ⟨add (mul s p) (mul t q), fun x => ?_⟩
 have e1 := e x
 have e2 := h.eq x
 rw [E_add, E_mul, E_mul]
 calc E q x = (E s x * E U x + E t x * E D x) * E q x := by rw [e1, Rat.one_mul]
  _ = E s x * (E U x * E q x) + E t x * E D x * E q x := by grind
  _ = _ := by rw [e2]; grind
/-- The value where the lower one isn't 0. -/
theorem Can.val {p q U D : List Rat} (h : Can p q U D) {z : Rat} (hz : E q z ≠ 0) : E D z ≠ 0 ∧ E U z / E D z = E p z / E q z := by
 obtain ⟨u, hu⟩ := h.dvd
 have hD : E D z ≠ 0 := fun e => hz (by rw [hu, e, Rat.mul_zero])
 refine ⟨hD, ?_⟩
 have e := h.eq z
 have i1 := Rat.mul_inv_cancel _ hD
 have i2 := Rat.mul_inv_cancel _ hz
 rw [Rat.div_def, Rat.div_def]
 calc E U z * (E D z)⁻¹ = (E U z * E q z) * (E D z)⁻¹ * (E q z)⁻¹ := by
       calc _ = E U z * (E D z)⁻¹ * (E q z * (E q z)⁻¹) := by rw [i2, Rat.mul_one]
        _ = _ := by grind
  _ = (E D z * (E D z)⁻¹) * (E p z * (E q z)⁻¹) := by rw [e]; grind
  _ = _ := by rw [i1, Rat.one_mul]
theorem Can.zero {p q U D : List Rat} (hq : nm q ≠ []) (h : Can p q U D) : U = [] ↔ nm p = [] := by
 constructor
 · intro e
   refine no_zero (q := D) (fun x => ?_) h.nd
   rw [← h.eq, e, E_nil, Rat.zero_mul]
 · intro e
   have := no_zero (p := U) (q := q) (fun x => by rw [h.eq, E_of_nil e, Rat.zero_mul]) hq
   rwa [nm_of_tr h.tr] at this
theorem Can.len {p q U D : List Rat} (hq : nm q ≠ []) (h : Can p q U D) : D.length ≤ ln q ∧ (U.length ≤ ln p) := by
 have hd : D.length ≤ ln q := h.dvd.len h.mo.tr hq
 refine ⟨hd, ?_⟩
 by_cases hu : U = []
 · rw [hu]; simp
 have hU : nm U ≠ [] := by rw [nm_of_tr h.tr]; exact hu
 have hp : nm p ≠ [] := fun e => hu ((h.zero hq).2 e)
 have l1 := ln_mul hU hq
 have l2 := ln_mul hp h.nd
 have l3 : ln (mul U q) = ln (mul p D) := ln_ext fun x => by rw [E_mul, E_mul, h.eq]
 rw [ln_tr h.tr] at l1
 rw [ln_tr h.mo.tr] at l2
 omega
/-- Sums. -/
theorem Can.sum {u d v e U D V F P Q : List Rat} (hd : nm d ≠ []) (he : nm e ≠ []) (h1 : Can u d U D) (h2 : Can v e V F) (h3 : Can (au u d v e) (nm (mul d e)) P Q) : Can (au U D V F) (nm (mul D F)) P Q :=
 h3.turn (nmul_ne hd he) fun x => by
  have e1 := h1.eq x
  have e2 := h2.eq x
  rw [E_au, E_au, E_nmul, E_nmul]
  calc (E u x * E e x + E v x * E d x) * (E D x * E F x) = (E u x * E D x) * E e x * E F x + (E v x * E F x) * E d x * E D x := by grind
   _ = (E U x * E d x) * E e x * E F x + (E V x * E e x) * E d x * E D x := by rw [e1, e2]
   _ = _ := by grind
theorem Can.prod {u d v e U D V F P Q : List Rat} (hd : nm d ≠ []) (he : nm e ≠ []) (h1 : Can u d U D) (h2 : Can v e V F) (h3 : Can (nm (mul u v)) (nm (mul d e)) P Q) : Can (nm (mul U V)) (nm (mul D F)) P Q :=
 h3.turn (nmul_ne hd he) fun x => by
  have e1 := h1.eq x
  have e2 := h2.eq x
  rw [E_nmul, E_nmul, E_nmul, E_nmul]
  calc (E u x * E v x) * (E D x * E F x) = (E u x * E D x) * (E v x * E F x) := by grind
   _ = (E U x * E d x) * (E V x * E e x) := by rw [e1, e2]
   _ = _ := by grind
theorem Can.over {u d v e U D V F P Q : List Rat} (hd : nm d ≠ []) (hv : nm v ≠ []) (h1 : Can u d U D) (h2 : Can v e V F) (h3 : Can (nm (mul u e)) (nm (mul d v)) P Q) : Can (nm (mul U F)) (nm (mul D V)) P Q :=
 h3.turn (nmul_ne hd hv) fun x => by
  have e1 := h1.eq x
  have e2 := h2.eq x
  rw [E_nmul, E_nmul, E_nmul, E_nmul]
  calc (E u x * E e x) * (E D x * E V x) = (E u x * E D x) * (E V x * E e x) := by grind
   _ = (E U x * E d x) * (E v x * E F x) := by rw [e1, e2]
   _ = _ := by grind
end Pq
