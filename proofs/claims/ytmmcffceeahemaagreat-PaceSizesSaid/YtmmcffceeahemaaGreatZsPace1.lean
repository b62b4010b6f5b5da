/-
  Layer 36: what is wrong with rules.
-/
import Derived.Test.YtmmcffceeahemaaGreatZsSeqLaw
import Derived.Test.YtmmcffceeahemaaGreatZsFracRight
import Derived.Test.YtmmcffceeahemaaGreatZsPaceMath
set_option linter.unusedVariables false
set_option linter.unusedSimpArgs false
namespace Go.Proofs.YtmmcffceeahemaaGreat
open Go.RowKit
/-- A fraction that may be: right, of at most 190 bits. -/
def good (r : Raw) : Bool := rawB r.1 (Wd.ngb r.val.num) r.2.1 (Wd.words r.val.num.natAbs) r.2.2 (Wd.words r.val.den) && decide (Wd.bl (Wd.val r.2.1) + Wd.bl (Wd.val r.2.2) ≤ 190)
set_option maxRecDepth 100000 in
set_option maxHeartbeats 1600000 in
theorem pace_above {v : Value} {q : Rat} {k : Nat} {w : World} (h : Fr w v q k) (hk : k ≤ 1000000) : Calls Tryz.prog 95 #[v] w fun e w' => e = .returned (.bool (decide (0 < q))) ∧ Up w w' := by
 have HP := Lib.hid (Pc.pos_sgn q)
 obtain ⟨x0, rfl, ⟨A1, n1, c1, e1⟩, ⟨D1, n2, c2, e2⟩⟩ := (kp_fr k).form h
 obtain ⟨s0, u0, d0⟩ := x0
 simp only at e1 e2
 subst e1 e2
 have FC : Fr w (.agg #[.bool s0, .slice A1 n1 c1, .slice D1 n2 c2]) q k := h
 clear h
 obtain ⟨sg, HSG⟩ : ∃ z, Hid (Wd.sgn q.num = z) := ⟨_, Lib.hid rfl⟩
 rw [HSG.out] at HP
 have UP : Up w (w.alloc (.cells #[.bool s0, .slice A1 n1 c1, .slice D1 n2 c2] 34)) := (Up.refl w).alloc _
 have b0 := Bx.new 34 w [.bool s0, .slice A1 n1 c1, .slice D1 n2 c2]
 show Calls Tryz.prog 95 #[.agg #[.bool s0, .slice A1 n1 c1, .slice D1 n2 c2]] w _
 go_enter Tryz.func95, Tryz.ntmps95
 go_wp2_with fail
 generalize (w.alloc (.cells #[.bool s0, .slice A1 n1 c1, .slice D1 n2 c2] 34)) = W at *
 replace FC := FC.up UP
 obtain ⟨b0_0, b0_1, b0_2⟩ := b0.c3
 go_wp2_with fail
 ((with_reducible refine (frac_sign FC (by omega)).mono ?_))
 rintro e W1 ⟨rfl, u1⟩
 replace FC := FC.up u1
 replace b0 := b0.up u1
 replace UP := UP.trans u1
 clear b0_0 b0_1 b0_2
 obtain ⟨b0_0, b0_1, b0_2⟩ := b0.c3
 clear u1
 rw [HSG.out]
 go_wp2
 go_ret
 exact ⟨by rw [← HP.out]; rfl, UP⟩
theorem all_snoc {rs : List Raw} {j : Nat} (hj : j < rs.length) (h : ∀ r ∈ rs.take j, good r = true) (h1 : good rs[j] = true) : ∀ r ∈ rs.take (j + 1), good r = true := by
 intro r hr
 rw [List.take_succ_eq_append_getElem hj] at hr
 rcases List.mem_append.1 hr with hr | hr
 · exact h r hr
 · simp at hr; subst hr; exact h1
set_option maxRecDepth 100000 in
set_option maxHeartbeats 3200000 in
theorem pace_numbers {v : Value} {rs : List Raw} {w : World} (h : Sq Rw w v rs) (hl : rs.length ≤ 1000) (hf : Hid (∀ r ∈ rs, r.few 1000)) : Calls Tryz.prog 93 #[v] w fun e w' => e = .returned (.bool (rs.all good)) ∧ Up w w' := by
 obtain ⟨A, c, rfl⟩ := h.form
 have H := Lib.hid h
 clear h
 go_enter Tryz.func93, Tryz.ntmps93
 go_wp2
 go_loopw [4, 7] (fun _ s7 wr => ∃ j : Nat, s7 = .int .i64 j ∧ j ≤ rs.length ∧ Hid (∀ r ∈ rs.take j, good r = true) ∧ Up w wr) (fun _ s7 _ => rs.length - (intOf s7).toNat)
 case atStart => exact ⟨0, rfl, Nat.zero_le _, Lib.hid (by simp), Up.refl w⟩
 case round =>
  obtain ⟨j, rfl, hj, HF, UP⟩ := hrel
  by_cases hlt : j < rs.length
  · obtain ⟨b, o, s, B, x, f, D, n', f', rfl, hb, g1, g2, g3, hp⟩ := (H.out.up kp_rw UP).at_ kp_rw hlt
    have HS := Lib.hid fun h1 => all_snoc hlt HF.out h1
    have HM := Lib.hid (List.getElem_mem hlt)
    have HFE := Lib.hid (hf.out rs[j] (List.getElem_mem hlt))
    generalize rs[j] = r at *
    obtain ⟨t0, l, m⟩ := r
    obtain ⟨u, d, e, h1, h2⟩ := hp
    obtain ⟨B1, c1, rfl⟩ := h1.form
    obtain ⟨D1, c2, rfl⟩ := h2.form
    simp at e
    obtain ⟨rfl, ⟨rfl, rfl, rfl⟩, rfl, rfl, rfl⟩ := e
    have h1 : Ws wr (.slice B l.length f) l := h1
    have h2 : Ws wr (.slice D m.length f') m := h2
    have few1 : l.length ≤ 1000 := HFE.out.1
    have few2 : m.length ≤ 1000 := HFE.out.2
    have k1 : (j : Int) < (rs.length : Int) := by omega
    have k0 : (0 : Int) ≤ (j : Int) := by omega
    have kk : ((j : Int)).toNat = j := by omega
    have HBAD : Hid (good (s, l, m) = false → rs.all good = false) := Lib.hid (fun hh => List.all_eq_false.2 ⟨(s, l, m), HM.out, by rw [hh]; simp⟩)
    obtain ⟨q, hq⟩ : ∃ q, mkRat (Wd.iv s (Wd.val l)) (Wd.val m) = q := ⟨_, rfl⟩
    obtain ⟨rb, HRB⟩ : ∃ t, Hid (rawB s (Wd.ngb q.num) l (Wd.words q.num.natAbs) m (Wd.words q.den) = t) := ⟨_, Lib.hid rfl⟩
    have HG : Hid (good (s, l, m) = (rb && decide (Wd.bl (Wd.val l) + Wd.bl (Wd.val m) ≤ 190))) := Lib.hid (by rw [← HRB.out, ← hq]; rfl)
    obtain ⟨N, HN⟩ : ∃ N, Hid (Wd.bl (Wd.val l) + Wd.bl (Wd.val m) = N) := ⟨_, Lib.hid rfl⟩
    rw [HN.out] at HG
    go_wp2_with fail
    have a1 := Bx.new 34 wr [.bool s, .slice B l.length f, .slice D m.length f']
    have nu := ((Up.refl wr).alloc (.cells #[.bool s, .slice B l.length f, .slice D m.length f'] 34))
    replace h1 := h1.up nu
    replace h2 := h2.up nu
    replace UP := UP.trans nu
    clear nu
    generalize (wr.alloc (.cells #[.bool s, .slice B l.length f, .slice D m.length f'] 34)) = W51 at *
    obtain ⟨a1_0, a1_1, a1_2⟩ := a1.c3
    ((with_reducible refine (frac_right h1 h2 hq (by omega) (by omega)).mono ?_))
    rintro e W52 ⟨rfl, u52⟩
    replace h1 := h1.up u52
    replace h2 := h2.up u52
    replace a1 := a1.up u52
    replace UP := UP.trans u52
    clear a1_0 a1_1 a1_2
    obtain ⟨a1_0, a1_1, a1_2⟩ := a1.c3
    clear u52
    rw [HRB.out]
    clear g1 g2 g3 hq
    cases rb
    · have HB := HBAD.out (by rw [HG.out]; rfl)
      have HB2 := Lib.hid HB
      clear HB
      go_wp2
      go_ret
      exact ⟨by rw [HB2.out]; rfl, UP⟩
    · skip
      go_wp2_with fail
      ((with_reducible refine (frac_size h1 h2 (by omega) (by omega)).mono ?_))
      rintro e W53 ⟨rfl, u53⟩
      replace h1 := h1.up u53
      replace h2 := h2.up u53
      replace a1 := a1.up u53
      replace UP := UP.trans u53
      clear a1_0 a1_1 a1_2
      obtain ⟨a1_0, a1_1, a1_2⟩ := a1.c3
      clear u53
      rw [HN.out]
      by_cases h9 : N ≤ 190
      · have HN2 := Lib.hid (HS.out (by rw [HG.out, decide_eq_true h9]; rfl))
        have k9 : ¬ ((N : Int) > 190) := by omega
        go_wp2_with fail
        go_roundw
        case rel => exact ⟨j + 1, by first | rfl | go_num, by omega, HN2, UP⟩
        case measure => simp [intOf]; omega
      · have HB2 := Lib.hid (HBAD.out (by rw [HG.out, decide_eq_false h9]; rfl))
        have k9 : (N : Int) > 190 := by omega
        go_wp2
        go_ret
        exact ⟨by rw [HB2.out]; rfl, UP⟩
  · obtain rfl : j = rs.length := by omega
    have HE : Hid (rs.all good = true) := Lib.hid (List.all_eq_true.2 (by
     have := HF.out
     rwa [List.take_length] at this))
    go_wp2
    go_ret
    exact ⟨by rw [HE.out]; rfl, UP⟩
end Go.Proofs.YtmmcffceeahemaaGreat
