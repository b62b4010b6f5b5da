/-
  The walk of GaugePlays.
-/
import Derived.Test.YtmmcffceeahemaaGaugeMoreW
set_option linter.unusedVariables false
set_option linter.unusedSimpArgs false
namespace Go.Proofs.Ytmmcffceeahemaa
open Go.RowKit

set_option maxRecDepth 100000 in
set_option maxHeartbeats 12800000 in
theorem gaugePlays_walk {v : Value} {ls : List (List Raw)} {limit : Int} {w : World} (h : Sqs Rw w v ls) (hl : -9223372036854775808 ≤ limit ∧ limit ≤ 9223372036854775807) :
    Calls Try.prog 5 #[.int .i64 limit, v] w fun e w' => e = .returned (.bool true) ∧ Up w w' := by
  obtain ⟨m, hm⟩ : ∃ m, (if 0 > limit then 0 else limit) = m := ⟨_, rfl⟩
  have HM := Lib.hid hm.symm
  have HL : Hid (Ga.lim limit = if 4096 < m then 4096 else m) := Lib.hid (by unfold Ga.lim; rw [hm])
  have hLb := Ga.lim_bd limit
  obtain ⟨L, hL⟩ : ∃ L, Ga.lim limit = L := ⟨_, rfl⟩
  have HLL := Lib.hid hL
  rw [hL] at HL hLb
  clear hm hL
  obtain ⟨A, c, rfl⟩ := h.form
  have hmax : ls.length ≤ maxLen := by obtain ⟨_, _, _, e, h1, h2, _⟩ := h; cases e; omega
  unfold maxLen at hmax
  have H := Lib.hid h
  clear h
  by_cases h20 : 20 < ls.length
  · have k1 : (20 : Int) < (ls.length : Int) := by omega
    go_enter Try.func5, Try.ntmps5
    go_wp2_with fail
    ((with_reducible refine (gauge_new hl _).mono ?_))
    intro e W RG
    obtain ⟨g, rfl, gb, hg, ltg, UP⟩ := RG.at_
    clear RG
    rw [HLL.out] at gb
    go_wp2_with fail
    ((with_reducible refine (works13 _).mono ?_))
    rintro e W2 ⟨rfl, u2⟩
    go_wp2
    go_ret
    exact ⟨rfl, UP.trans u2⟩
  have h20' : ls.length ≤ 20 := by omega
  have k1 : decide ((20 : Int) < (ls.length : Int)) = false := decide_eq_false (by omega)
  clear h20
  go_enter Try.func5, Try.ntmps5
  go_wp2_with fail
  ((with_reducible refine (gauge_new hl _).mono ?_))
  intro e W RG
  obtain ⟨g, rfl, gb, hg, ltg, UP⟩ := RG.at_
  clear RG
  rw [HLL.out] at gb
  go_wp2_with (first
    | (with_reducible show wpList _ _ _ _ _ _; refine wl_max (o := ⟨some 25, _, _, _, _, _⟩) rfl _ _ _ _ rfl rfl rfl HM.out ?_)
    | (with_reducible show wpList _ _ _ _ _ _; refine wl_min (o := ⟨some 26, _, _, _, _, _⟩) rfl _ _ _ _ rfl rfl rfl HL.out ?_))
  ((with_reducible refine (gauge_limit gb).mono ?_))
  rintro e W1 ⟨rfl, rfl⟩
  have HOV : Hid (decide (L < 0) = false) := Lib.hid (decide_eq_false (by omega))
  go_wp2_with fail
  ((with_reducible refine (gauge_over gb).mono ?_))
  rintro e W2 ⟨rfl, u2⟩
  rw [HOV.out]
  replace gb := gb.up u2
  replace UP := UP.trans u2
  clear u2
  go_wp2_with fail
  ((with_reducible refine (gauge_tells gb).mono ?_))
  rintro e W3 ⟨rfl, u3⟩
  replace gb := gb.up u3
  replace UP := UP.trans u3
  clear u3 k1 HOV
  go_wp2_with fail
  go_loopw [7, 8, 9] (fun s7 s8 s9 wr => ∃ (j : Nat) (S P : Int), s7 = .int .i64 S ∧ s8 = .int .i64 P ∧ s9 = .int .i64 j ∧ j ≤ ls.length ∧ 0 ≤ S ∧ S ≤ 20 * (j : Int) ∧ Bx 148 wr g [.int .i64 S, .int .i64 P, .int .i64 L] ∧ Up w wr) (fun _ _ s9 _ => ls.length - (intOf s9).toNat)
  case atStart => exact ⟨0, 0, 0, rfl, rfl, rfl, Nat.zero_le _, by omega, by omega, gb, UP⟩
  case round =>
    clear gb UP
    obtain ⟨j, S, P, rfl, rfl, rfl, hj, hS0, hS1, gb, UP⟩ := hrel
    by_cases hlt : j < ls.length
    · obtain ⟨b, o, u, rfl, hb, c0, hu⟩ := H.out.at_ hlt
      generalize ls[j] = rs at *
      obtain ⟨A1, c1, rfl⟩ := hu.form
      have HOLD : Hid (∀ w', Up w w' → w'.cell? ⟨b, o + j, none⟩ = some (.slice A1 rs.length c1)) := Lib.hid (fun w' up => (up.cell (p := ⟨b, o + j, none⟩) hb).trans c0)
      have HU := Lib.hid hu
      clear hu c0
      have k1 : (j : Int) < (ls.length : Int) := by omega
      have k0 : (0 : Int) ≤ (j : Int) := by omega
      have kk : ((j : Int)).toNat = j := by omega
      have d1 := HOLD.out wr UP
      go_wp2_with fail
      ((with_reducible refine (ref_long_20_200 (HU.out.up kp_rw UP)).mono ?_))
      rintro e W4 ⟨t, rfl, HT, u4⟩
      replace gb := gb.up u4
      replace UP := UP.trans u4
      clear u4 d1
      cases t with
      | true =>
        clear HT
        go_wp2_with fail
        ((with_reducible refine (works13 _).mono ?_))
        rintro e W2 ⟨rfl, u2⟩
        go_wp2
        go_ret
        exact ⟨rfl, UP.trans u2⟩
      | false =>
        obtain ⟨hlen, hfew⟩ := HT.out rfl
        have HS : Hid (Sq (Sz 200) w (.slice A1 rs.length c1) (rs.map Raw.size)) := Lib.hid (HU.out.szs hfew)
        have hns : (rs.map Raw.size).length = rs.length := List.length_map _
        generalize rs.map Raw.size = ns at *
        obtain ⟨N, hN⟩ : ∃ N, rs.length = N := ⟨_, rfl⟩
        rw [hN] at HS hns hlen HOLD
        rw [hN]
        have HNN := Lib.hid hns
        have hnl : ns.length ≤ 20 := by omega
        clear HT hfew HU hN hns
        have d1 := HOLD.out W4 UP
        go_wp2_with fail
        ((with_reducible refine (ref_row13 (HS.out.up (kp_sz 200) UP) (by omega) (by omega)).mono ?_))
        rintro e W5 ⟨rfl, u5⟩
        replace gb := gb.up u5
        replace UP := UP.trans u5
        clear u5 d1
        have d1 := HOLD.out W5 UP
        go_wp2_with fail
        ((with_reducible refine (law_to11 (kp_sz 200) (HS.out.up (kp_sz 200) UP) (by omega)).mono ?_))
        rintro e W6 ⟨X, rfl, OX, u6⟩
        have hX : X.ownBlock ≠ some g := fun e => by have := (OX.lt g e).1; have := gb.lt; omega
        replace gb := gb.up u6
        replace UP := UP.trans u6
        have SX := OX.sq
        clear u6 d1 OX
        obtain ⟨A3, c3, rfl⟩ := SX.form
        go_wp2_with fail
        ((with_reducible refine (gauge_row gb SX hX (by omega) (by omega) (by omega)).mono ?_))
        rintro e W7 ⟨rfl, gb2, G1⟩
        replace UP := G1.above UP hg
        clear gb G1 SX hX
        have hbl := Ga.bad_le L ns
        obtain ⟨B, HB⟩ : ∃ B, Hid (Ga.bad L ns = B) := ⟨_, Lib.hid rfl⟩
        rw [HB.out] at gb2 hbl ⊢
        rw [HNN.out] at gb2 hbl ⊢
        obtain ⟨F, HF⟩ : ∃ F, Hid (decide (B = N) = F) := ⟨_, Lib.hid rfl⟩
        rw [HF.out]
        have kF : ((B : Int) == (N : Int)) = F := by
          rw [← HF.out, Bool.eq_iff_iff, beq_iff_eq, decide_eq_true_eq]
          omega
        have kFF : (F != F) = false := by simp
        have KF := Lib.hid kF
        have KFF := Lib.hid kFF
        clear kF kFF
        have GB2 := Lib.hid gb2
        clear gb2
        go_wp2_with fail
        go_loopw [7, 8, 13] (fun s7 s8 s13 wi => ∃ k : Nat, s7 = .int .i64 (S + (k : Int)) ∧ s8 = .int .i64 (Ga.pk P (ns.take k)) ∧ s13 = .int .i64 k ∧ k ≤ B + 1 ∧ k ≤ N ∧ Up W7 wi) (fun _ _ s13 _ => N - (intOf s13).toNat)
        case atStart => exact ⟨0, by simp, rfl, rfl, by omega, by omega, Up.refl W7⟩
        case round =>
          obtain ⟨k, rfl, rfl, rfl, hk1, hk2, ui⟩ := hrel
          have UPi := UP.trans ui
          have d1 := HOLD.out wr UPi
          have kw1 : IntKind.i64.wrap (S + (k : Int) + 1) = S + (k : Int) + 1 := IntWalk.i64_in _ (by omega)
          have KW := Lib.hid kw1
          clear kw1
          by_cases hkN : k < N
          · have q1 : (k : Int) < (N : Int) := by omega
            by_cases hkB : k ≤ B
            · have q2 : (k : Int) ≤ (B : Int) := by omega
              have hkn : k < ns.length := by rw [HNN.out]; exact hkN
              obtain ⟨b2, o2, s, B1, x1, f1, D, n', f', rfl, hb2, g1, g2, g3, hp⟩ := (HS.out.up (kp_sz 200) UPi).at_ (kp_sz 200) hkn
              have HPK := Lib.hid (Ga.pk_take (p := P) hkn)
              generalize ns[k] = n at *
              obtain ⟨Q, HQ⟩ : ∃ Q, Hid (Ga.pk P (ns.take k) = Q) := ⟨_, Lib.hid rfl⟩
              rw [HQ.out]
              have HMX : Hid (Ga.mx Q n = if (n : Int) > Q then (n : Int) else Q) := Lib.hid rfl
              have HPK2 : Hid (Ga.mx Q n = Ga.pk P (ns.take (k + 1))) := Lib.hid (by rw [HPK.out, HQ.out])
              have q0 : (0 : Int) ≤ (k : Int) := by omega
              have qk : ((k : Int)).toNat = k := by omega
              have qw := KW.out
              go_wp2_with fail
              ((with_reducible refine (hp.rsize (by omega)).mono ?_))
              rintro e W8 ⟨rfl, u8⟩
              have ui2 := ui.trans u8
              clear g1 g2 g3 d1 hp qw
              go_wp2_with (with_reducible show wpList _ _ _ _ _ _; refine wl_max (o := ⟨some 94, _, _, _, _, _⟩) rfl _ _ _ _ rfl rfl rfl HMX.out ?_)
              go_roundw
              case rel => exact ⟨k + 1, by first | go_num | (congr 1; omega), by rw [HPK2.out], by go_num, by omega, by omega, ui2⟩
              case measure => simp [intOf]; omega
            · have q2 : decide ((k : Int) ≤ (B : Int)) = false := decide_eq_false (by omega)
              have HTK : Hid (ns.take (B + 1) = ns.take k) := Lib.hid (by have e := HNN.out; first | rw [List.take_of_length_le (by omega), List.take_of_length_le (by omega)] | (congr 1; omega))
              have HMN : Hid (min (B + 1) N = k) := Lib.hid (by omega)
              have gb3 := GB2.out.up ui
              rw [HTK.out, HMN.out] at gb3
              have kF := KF.out
              have kFF := KFF.out
              obtain ⟨PK, HPK⟩ : ∃ PK, Hid (Ga.pk P (ns.take k) = PK) := ⟨_, Lib.hid rfl⟩
              rw [HPK.out] at gb3 ⊢
              go_wp2_with fail
              ((with_reducible refine (gauge_tells gb3).mono ?_))
              rintro e W8 ⟨rfl, u8⟩
              replace gb3 := gb3.up u8
              replace UPi := UPi.trans u8
              clear d1
              go_wp2_with fail
              ((with_reducible refine (gauge_over gb3).mono ?_))
              rintro e W9 ⟨rfl, u9⟩
              replace gb3 := gb3.up u9
              replace UPi := UPi.trans u9
              obtain ⟨V, HV⟩ : ∃ V, Hid (decide (L < PK) = V) := ⟨_, Lib.hid rfl⟩
              rw [HV.out]
              have kV := HV.out
              have kVV : (V != V) = false := by simp
              go_wp2
              go_roundw
              case rel => exact ⟨j + 1, S + (k : Int), PK, rfl, rfl, by go_num, by omega, by omega, by omega, gb3, UPi⟩
              case measure => simp [intOf]; omega
          · have q1 : decide ((k : Int) < (N : Int)) = false := decide_eq_false (by omega)
            have HTK : Hid (ns.take (B + 1) = ns.take k) := Lib.hid (by have e := HNN.out; first | rw [List.take_of_length_le (by omega), List.take_of_length_le (by omega)] | (congr 1; omega))
            have HMN : Hid (min (B + 1) N = k) := Lib.hid (by omega)
            have gb3 := GB2.out.up ui
            rw [HTK.out, HMN.out] at gb3
            have kF := KF.out
            have kFF := KFF.out
            obtain ⟨PK, HPK⟩ : ∃ PK, Hid (Ga.pk P (ns.take k) = PK) := ⟨_, Lib.hid rfl⟩
            rw [HPK.out] at gb3 ⊢
            go_wp2_with fail
            ((with_reducible refine (gauge_tells gb3).mono ?_))
            rintro e W8 ⟨rfl, u8⟩
            replace gb3 := gb3.up u8
            replace UPi := UPi.trans u8
            clear d1
            go_wp2_with fail
            ((with_reducible refine (gauge_over gb3).mono ?_))
            rintro e W9 ⟨rfl, u9⟩
            replace gb3 := gb3.up u9
            replace UPi := UPi.trans u9
            obtain ⟨V, HV⟩ : ∃ V, Hid (decide (L < PK) = V) := ⟨_, Lib.hid rfl⟩
            rw [HV.out]
            have kV := HV.out
            have kVV : (V != V) = false := by simp
            go_wp2
            go_roundw
            case rel => exact ⟨j + 1, S + (k : Int), PK, rfl, rfl, by go_num, by omega, by omega, by omega, gb3, UPi⟩
            case measure => simp [intOf]; omega
    · obtain rfl : j = ls.length := by omega
      clear gb
      go_wp2_with fail
      ((with_reducible refine (works13 _).mono ?_))
      rintro e W2 ⟨rfl, u2⟩
      go_wp2
      go_ret
      exact ⟨rfl, UP.trans u2⟩
end Go.Proofs.Ytmmcffceeahemaa
