/-
  Layer 17: fields compared.
-/
import Derived.Test.YtmmcffceeahemaaCodes2
set_option linter.unusedVariables false
set_option linter.unusedSimpArgs false
namespace Tr
/-- One by one. -/
def all2 {α : Type} (p : α → α → Bool) : List α → List α → Bool
  | [], [] => true
  | x :: l, y :: m => p x y && all2 p l m
  | _, _ => false
theorem all2_len {α : Type} {p : α → α → Bool} : ∀ {l m : List α}, l.length ≠ m.length → all2 p l m = false
  | [], [], h => absurd rfl h
  | [], _ :: _, _ => rfl
  | _ :: _, [], _ => rfl
  | x :: l, y :: m, h => by
    have h2 : l.length ≠ m.length := fun e => h (by simp [e])
    simp [all2, all2_len h2]
theorem all2_drop {α : Type} {p : α → α → Bool} {l m : List α} {k : Nat} (h : k < l.length) (h' : k < m.length) : all2 p (l.drop k) (m.drop k) = (p l[k] m[k] && all2 p (l.drop (k + 1)) (m.drop (k + 1))) := by
  rw [List.drop_eq_getElem_cons h, List.drop_eq_getElem_cons h']
  rfl
theorem all2_and {α : Type} {p q : α → α → Bool} : ∀ {l m : List α}, all2 (fun x y => p x y && q x y) l m = (all2 p l m && all2 q l m)
  | [], [] => rfl
  | [], _ :: _ => rfl
  | _ :: _, [] => rfl
  | x :: l, y :: m => by
    simp only [all2, all2_and (p := p) (q := q) (l := l) (m := m)]
    cases p x y <;> cases q x y <;> cases all2 p l m <;> cases all2 q l m <;> rfl
theorem all2_map {α β : Type} {p : β → β → Bool} {f : α → β} : ∀ {l m : List α}, all2 p (l.map f) (m.map f) = all2 (fun x y => p (f x) (f y)) l m
  | [], [] => rfl
  | [], _ :: _ => rfl
  | _ :: _, [] => rfl
  | x :: l, y :: m => by simp only [List.map_cons, all2, all2_map (l := l) (m := m)]
theorem all2_append {α : Type} {p : α → α → Bool} {l' m' : List α} : ∀ {l m : List α}, l.length = m.length → all2 p (l ++ l') (m ++ m') = (all2 p l m && all2 p l' m')
  | [], [], _ => rfl
  | [], _ :: _, h => by simp at h
  | _ :: _, [], h => by simp at h
  | x :: l, y :: m, h => by
    have h2 : l.length = m.length := by simpa using h
    simp only [List.cons_append, all2, all2_append h2, Bool.and_assoc]
theorem all2_self {α : Type} {p : α → α → Bool} (hp : ∀ x, p x x = true) : ∀ (l : List α), all2 p l l = true
  | [] => rfl
  | x :: l => by simp [all2, hp, all2_self hp l]
/-- Alike: names, expressions. -/
def nameB (x y : ByteArray × List Nd) : Bool := x.1.toList == y.1.toList
def Fd.same (F G : Fd) : Bool := all2 nameB F.lets G.lets && (all2 (fun x y => sameL x.2 y.2) F.lets G.lets && all2 sameL F.outs G.outs)
theorem Fd.same_self (F : Fd) : F.same F = true := by
  unfold Fd.same
  rw [all2_self (fun x => by simp [nameB]), all2_self (fun x => sameL_self x.2), all2_self sameL_self]
  rfl
theorem Fd.same_codes {F G : Fd} (h : F.lets.length = G.lets.length) : F.same G = (all2 nameB F.lets G.lets && all2 sameL F.codes G.codes) := by
  unfold Fd.same Fd.codes
  rw [all2_append (by simpa using h), all2_map]
theorem Fd.same_each {F G : Fd} : F.same G = (all2 (fun x y => nameB x y && sameL x.2 y.2) F.lets G.lets && all2 sameL F.outs G.outs) := by
  unfold Fd.same
  rw [all2_and, Bool.and_assoc]
end Tr
namespace Go.Proofs.Ytmmcffceeahemaa
open Go.RowKit


set_option maxRecDepth 100000 in
set_option maxHeartbeats 6400000 in
theorem ref_sameField {v u : Value} {F G : Tr.Fd} {w : World} (h : Fld w v F) (k : Fld w u G) (hs : F.Small 12 100 10) (ht : G.Small 12 100 10) :
    Calls Try.prog 24 #[v, u] w fun e w' => e = .returned (.bool (F.same G)) ∧ Up w w' := by
  obtain ⟨a, b, rfl, ha, hb⟩ := h
  obtain ⟨a', b', rfl, ha', hb'⟩ := k
  obtain ⟨A, c, rfl⟩ := ha.form
  obtain ⟨B, d, rfl⟩ := hb.form
  obtain ⟨A', c', rfl⟩ := ha'.form
  obtain ⟨B', d', rfl⟩ := hb'.form
  have FF : Hid (Fld w (.agg #[.slice A F.lets.length c, .slice B F.outs.length d]) F) := Lib.hid ⟨_, _, rfl, ha, hb⟩
  have GG : Hid (Fld w (.agg #[.slice A' G.lets.length c', .slice B' G.outs.length d']) G) := Lib.hid ⟨_, _, rfl, ha', hb'⟩
  have HS := Lib.hid hs
  have HT := Lib.hid ht
  obtain ⟨hl1, hm1, _, _⟩ := hs
  obtain ⟨hl2, hm2, _, _⟩ := ht
  have u0 : Up w ((w.alloc (.cells #[.slice A F.lets.length c, .slice B F.outs.length d] 25)).alloc (.cells #[.slice A' G.lets.length c', .slice B' G.outs.length d'] 25)) := ((Up.refl w).alloc _).alloc _
  have q := two_new w (.cells #[.slice A F.lets.length c, .slice B F.outs.length d] 25) (.cells #[.slice A' G.lets.length c', .slice B' G.outs.length d'] 25)
  by_cases h1 : F.lets.length = G.lets.length
  rotate_left
  · have HF : Hid (F.same G = false) := Lib.hid (by unfold Tr.Fd.same; rw [Tr.all2_len h1]; rfl)
    have h12 : ((F.lets.length : Int) != (G.lets.length : Int)) = true := by simp; omega
    clear q
    go_enter Try.func24, Try.ntmps24
    go_wp2
    go_ret
    exact ⟨by rw [HF.out]; rfl, u0⟩
  by_cases h2 : F.outs.length = G.outs.length
  rotate_left
  · have HF : Hid (F.same G = false) := Lib.hid (by unfold Tr.Fd.same; rw [Tr.all2_len (l := F.outs) h2]; simp)
    have h12 : ((F.lets.length : Int) != (G.lets.length : Int)) = false := by simp; omega
    have h22 : ((F.outs.length : Int) != (G.outs.length : Int)) = true := by simp; omega
    clear q
    have H1 := Lib.hid h1
    clear h1
    go_enter Try.func24, Try.ntmps24
    go_wp2
    go_ret
    exact ⟨by rw [HF.out]; rfl, u0⟩
  have H1 := Lib.hid h1
  have H2 := Lib.hid h2
  have HA := Lib.hid ha
  have HB := Lib.hid hb
  have HA' := Lib.hid ha'
  have HB' := Lib.hid hb'
  obtain ⟨NL, hNL⟩ : ∃ n, n = F.lets.length := ⟨_, rfl⟩
  obtain ⟨NO, hNO⟩ : ∃ n, n = F.outs.length := ⟨_, rfl⟩
  have HNL := Lib.hid hNL
  have HNO := Lib.hid hNO
  rw [← h1, ← h2, ← hNL, ← hNO] at q u0 ⊢
  rw [← hNL] at hl1
  rw [← hNO] at hm1
  clear ha hb ha' hb' h1 h2 hl2 hm2 hNL hNO
  go_enter Try.func24, Try.ntmps24
  go_wp2
  generalize (w.alloc (.cells #[.slice A NL c, .slice B NO d] 25)).alloc (.cells #[.slice A' NL c', .slice B' NO d'] 25) = W at *
  obtain ⟨q1, q2⟩ := q
  have hz : w.heap.size + 1 < W.heap.size := (Array.getElem?_eq_some_iff.1 q2).1
  have a0 : W.cell? ⟨w.heap.size, 0, none⟩ = some (.slice A NL c) := by rw [cell_of_row _ _ _ _ _ (0, 0) q1]; rfl
  have a1 : W.cell? ⟨w.heap.size, 1, none⟩ = some (.slice B NO d) := by rw [cell_of_row _ _ _ _ _ (0, 0) q1]; rfl
  have b0 : W.cell? ⟨w.heap.size + 1, 0, none⟩ = some (.slice A' NL c') := by rw [cell_of_row _ _ _ _ _ (0, 0) q2]; rfl
  have b1 : W.cell? ⟨w.heap.size + 1, 1, none⟩ = some (.slice B' NO d') := by rw [cell_of_row _ _ _ _ _ (0, 0) q2]; rfl
  clear q1 q2
  have A0 := Lib.hid a0
  have B0 := Lib.hid b0
  have A1 := Lib.hid a1
  have B1 := Lib.hid b1
  have FW : Hid (Fld W (.agg #[.slice A NL c, .slice B NO d]) F) := Lib.hid (by rw [HNL.out, HNO.out]; exact FF.out.up u0)
  have GW : Hid (Fld W (.agg #[.slice A' NL c', .slice B' NO d']) G) := Lib.hid (by rw [HNL.out, HNO.out, H1.out, H2.out]; exact GG.out.up u0)
  clear a0 a1 b0 b1
  go_loopw [5] (fun s5 wr => ∃ k : Nat, s5 = .int .i64 k ∧ k ≤ NL ∧ Up W wr ∧ Hid (Tr.all2 Tr.nameB (F.lets.drop k) (G.lets.drop k) = Tr.all2 Tr.nameB F.lets G.lets)) (fun s5 _ => NL - (intOf s5).toNat)
  case atStart => exact ⟨0, rfl, Nat.zero_le _, Up.refl _, Lib.hid rfl⟩
  case round =>
    obtain ⟨k, rfl, hk, hup, HG⟩ := hrel
    have a0 := (hup.cell (p := ⟨w.heap.size, 0, none⟩) (by exact Nat.lt_of_succ_lt hz)).trans A0.out
    have b0 := (hup.cell (p := ⟨w.heap.size + 1, 0, none⟩) hz).trans B0.out
    by_cases hlt : k < NL
    · have hlt1 : k < F.lets.length := by rw [← HNL.out]; exact hlt
      have hlt2 : k < G.lets.length := by rw [← H1.out]; exact hlt1
      obtain ⟨b, o, u, rfl, hb, g1, g2, g3⟩ := HA.out.at_ hlt1
      obtain ⟨b', o', u', rfl, hb', g1', g2', g3'⟩ := HA'.out.at_ hlt2
      have g1 := ((u0.trans hup).cell (p := ⟨b, o + k * 2, none⟩) hb).trans g1
      have g1' := ((u0.trans hup).cell (p := ⟨b', o' + k * 2, none⟩) hb').trans g1'
      have HD := Lib.hid (Tr.all2_drop (p := Tr.nameB) hlt1 hlt2)
      rw [HG.out] at HD
      clear g2 g2' g3 g3' hb hb'
      generalize F.lets[k] = X at *
      generalize G.lets[k] = Y at *
      clear hlt1 hlt2
      obtain ⟨nx, lx⟩ := X
      obtain ⟨ny, ly⟩ := Y
      simp only at g1 g1'
      have k1 : (k : Int) < (NL : Int) := by omega
      have k0 : (0 : Int) ≤ (k : Int) := by omega
      have kk : ((k : Int)).toNat = k := by omega
      by_cases hn : (nx.toList == ny.toList) = true
      · have HN : Hid (Tr.all2 Tr.nameB (F.lets.drop (k + 1)) (G.lets.drop (k + 1)) = Tr.all2 Tr.nameB F.lets G.lets) := Lib.hid (by rw [HD.out]; simp only [Tr.nameB, hn, Bool.true_and])
        go_wp2
        go_quiet (fail)
        go_wp2
        go_roundw
        case rel => exact ⟨k + 1, by go_num, by omega, hup.drewN _, HN⟩
        case measure => simp [intOf]; omega
      · have hn1 : (nx.toList == ny.toList) = false := by simpa using hn
        have HN : Hid (F.same G = false) := Lib.hid (by unfold Tr.Fd.same; rw [HD.out]; simp only [Tr.nameB, hn1, Bool.false_and])
        clear hn
        go_wp2
        go_quiet (fail)
        go_wp2
        go_ret
        exact ⟨by rw [HN.out]; rfl, (u0.trans hup).drewN _⟩
    · obtain rfl : k = NL := by omega
      have HN : Hid (F.same G = Tr.all2 Tr.sameL F.codes G.codes) := Lib.hid (by
        rw [Tr.Fd.same_codes H1.out, ← HG.out, HNL.out, List.drop_length, H1.out, List.drop_length]
        rfl)
      have g0 := u0.trans hup
      have a1 := (hup.cell (p := ⟨w.heap.size, 1, none⟩) (by exact Nat.lt_of_succ_lt hz)).trans A1.out
      go_wp2_with fail
      refine (ref_codes (FW.out.up hup) (Nat.le_trans HS.out.1 (by omega)) (Nat.le_trans HS.out.2.1 (by omega))).mono ?_
      rintro e w2 ⟨V2, rfl, x2, u2⟩
      have hup2 := hup.trans u2
      have b0 := (hup2.cell (p := ⟨w.heap.size + 1, 0, none⟩) hz).trans B0.out
      have b1 := (hup2.cell (p := ⟨w.heap.size + 1, 1, none⟩) hz).trans B1.out
      clear a0 a1 hup
      go_wp2_with fail
      refine (ref_codes (GW.out.up hup2) (Nat.le_trans HT.out.1 (by omega)) (Nat.le_trans HT.out.2.1 (by omega))).mono ?_
      rintro e w3 ⟨V3, rfl, x3, u3⟩
      have x2 := x2.up u3
      have g3 := (g0.trans u2).trans u3
      clear b0 b1 hup2 u2 g0
      have HLC : Hid (F.codes.length = G.codes.length) := Lib.hid (by simp only [Tr.Fd.codes, List.length_append, List.length_map]; rw [H1.out, H2.out])
      have P := Lib.hid HS.out.codes
      have P' := Lib.hid HT.out.codes
      obtain ⟨C, e, rfl⟩ := x2.form
      obtain ⟨C', e', rfl⟩ := x3.form
      have X2 := Lib.hid x2
      have X3 := Lib.hid x3
      obtain ⟨NC, hNC⟩ : ∃ n, n = F.codes.length := ⟨_, rfl⟩
      have HNC := Lib.hid hNC
      have hle := P.out.1
      rw [← HLC.out, ← hNC]
      rw [← hNC] at hle
      clear x2 x3 hNC
      go_wp2
      go_loopw [8] (fun s8 wr => ∃ k : Nat, s8 = .int .i64 k ∧ k ≤ NC ∧ Up w3 wr ∧ Hid (Tr.all2 Tr.sameL (F.codes.drop k) (G.codes.drop k) = Tr.all2 Tr.sameL F.codes G.codes)) (fun s8 _ => NC - (intOf s8).toNat)
      case atStart => exact ⟨0, rfl, Nat.zero_le _, Up.refl _, Lib.hid rfl⟩
      case round =>
        obtain ⟨k, rfl, hk, hup, HK⟩ := hrel
        have gr := g3.trans hup
        by_cases hlt : k < NC
        · have hlt1 : k < F.codes.length := by rw [← HNC.out]; exact hlt
          have hlt2 : k < G.codes.length := by rw [← HLC.out]; exact hlt1
          obtain ⟨b, o, u, rfl, hb, c1, n1⟩ := (X2.out.up hup).at_ hlt1
          obtain ⟨b', o', u', rfl, hb', c2, n2⟩ := (X3.out.up hup).at_ hlt2
          have HD := Lib.hid (Tr.all2_drop (p := Tr.sameL) hlt1 hlt2)
          rw [HK.out] at HD
          have HL := Lib.hid (P.out.2 F.codes[k] (List.getElem_mem hlt1))
          have HL' := Lib.hid (P'.out.2 G.codes[k] (List.getElem_mem hlt2))
          generalize F.codes[k] = p at *
          generalize G.codes[k] = p' at *
          have N1 := Lib.hid n1
          have N2 := Lib.hid n2
          have HOLD : Hid (∀ w', Up wr w' → w'.cell? ⟨b, o + k, none⟩ = some u ∧ w'.cell? ⟨b', o' + k, none⟩ = some u') := Lib.hid (fun w' hu => ⟨(hu.cell (p := ⟨b, o + k, none⟩) hb).trans c1, (hu.cell (p := ⟨b', o' + k, none⟩) hb').trans c2⟩)
          have k1 : (k : Int) < (NC : Int) := by omega
          have k0 : (0 : Int) ≤ (k : Int) := by omega
          have kk : ((k : Int)).toNat = k := by omega
          obtain ⟨t, ht⟩ : ∃ t, Tr.sameL p p' = t := ⟨_, rfl⟩
          have HTT := Lib.hid ht
          clear n1 n2 hlt1 hlt2 ht
          cases t with
          | true =>
            have HN : Hid (Tr.all2 Tr.sameL (F.codes.drop (k + 1)) (G.codes.drop (k + 1)) = Tr.all2 Tr.sameL F.codes G.codes) := Lib.hid (by rw [HD.out, HTT.out, Bool.true_and])
            go_wp2_with fail
            go_region_held3 (fun w' => w'.cell? ⟨b, o + k, none⟩ = some u ∧ w'.cell? ⟨b', o' + k, none⟩ = some u')
              (first | go_keep | exact HOLD.out _ q2)
              (first
                | (go_at_call 19
                   refine (ref_same_any (N1.out.up (by first | exact Up.refl _ | exact (Up.refl _).drew)) (N2.out.up (by first | exact Up.refl _ | exact (Up.refl _).drew)) (Nat.le_trans HL.out.1 (by omega)) (Nat.le_trans HL'.out.1 (by omega)) (fun y hy => Nat.le_trans (HL.out.2 y hy) (by omega)) (fun y hy => Nat.le_trans (HL'.out.2 y hy) (by omega))).mono ?_
                   rintro e w2 ⟨rfl, u2⟩
                   rw [HTT.out]
                   have q2 : Up wr w2 := by first | exact u2 | exact ((Up.refl _).drew).trans u2))
            all_goals
              have up3 := hup.trans q2
              clear c1 c2 u2
              go_wp2
              go_roundw
              case rel => exact ⟨k + 1, by go_num, by omega, up3, HN⟩
              case measure => simp [intOf]; omega
          | false =>
            have HF : Hid (F.same G = false) := Lib.hid (by rw [HN.out, HD.out, HTT.out, Bool.false_and])
            go_wp2_with fail
            go_region_held3 (fun w' => w'.cell? ⟨b, o + k, none⟩ = some u ∧ w'.cell? ⟨b', o' + k, none⟩ = some u')
              (first | go_keep | exact HOLD.out _ q2)
              (first
                | (go_at_call 19
                   refine (ref_same_any (N1.out.up (by first | exact Up.refl _ | exact (Up.refl _).drew)) (N2.out.up (by first | exact Up.refl _ | exact (Up.refl _).drew)) (Nat.le_trans HL.out.1 (by omega)) (Nat.le_trans HL'.out.1 (by omega)) (fun y hy => Nat.le_trans (HL.out.2 y hy) (by omega)) (fun y hy => Nat.le_trans (HL'.out.2 y hy) (by omega))).mono ?_
                   rintro e w2 ⟨rfl, u2⟩
                   rw [HTT.out]
                   have q2 : Up wr w2 := by first | exact u2 | exact ((Up.refl _).drew).trans u2))
            all_goals
              have up3 := gr.trans q2
              clear c1 c2 u2
              go_wp2
              go_ret
              exact ⟨by rw [HF.out]; rfl, up3⟩
        · obtain rfl : k = NC := by omega
          have HF : Hid (F.same G = true) := Lib.hid (by rw [HN.out, ← HK.out, HNC.out, List.drop_length, HLC.out, List.drop_length]; rfl)
          go_wp2
          go_ret
          exact ⟨by rw [HF.out]; rfl, gr⟩
end Go.Proofs.Ytmmcffceeahemaa
