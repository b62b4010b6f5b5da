/-
  The walks of layer 17: nodes compared, alike or not.
-/
import Derived.Test.YtmmcffceeahemaaTreeSame
set_option linter.unusedVariables false
set_option linter.unusedSimpArgs false
namespace Tr
/-- Nodes alike: their numbers as numbers. -/
def same1 (x y : Nd) : Bool := x.op == y.op && (x.i == y.i && Wd.val x.n == Wd.val y.n)
def sameL : List Nd → List Nd → Bool
  | [], [] => true
  | x :: l, y :: m => same1 x y && sameL l m
  | _, _ => false
theorem sameL_len : ∀ {l m : List Nd}, l.length ≠ m.length → sameL l m = false
  | [], [], h => absurd rfl h
  | [], _ :: _, _ => rfl
  | _ :: _, [], _ => rfl
  | x :: l, y :: m, h => by
    have h2 : l.length ≠ m.length := fun e => h (by simp [e])
    simp [sameL, sameL_len h2]
theorem sameL_self : ∀ (l : List Nd), sameL l l = true
  | [] => rfl
  | x :: l => by simp [sameL, same1, sameL_self l]
theorem sameL_drop {l m : List Nd} {k : Nat} (h : k < l.length) (h' : k < m.length) : sameL (l.drop k) (m.drop k) = (same1 l[k] m[k] && sameL (l.drop (k + 1)) (m.drop (k + 1))) := by
  rw [List.drop_eq_getElem_cons h, List.drop_eq_getElem_cons h']
  rfl
end Tr
namespace Go.Proofs.Ytmmcffceeahemaa
open Go.RowKit


set_option maxRecDepth 100000 in
set_option maxHeartbeats 6400000 in
theorem ref_same_any {v u : Value} {l m : List Tr.Nd} {w : World} (h : Nds w v l) (k : Nds w u m) (hl : l.length ≤ 1000000) (hm : m.length ≤ 1000000) (hnl : ∀ x ∈ l, x.n.length ≤ 1000000) (hnm : ∀ x ∈ m, x.n.length ≤ 1000000) :
    Calls Try.prog 19 #[v, u] w fun e w' => e = .returned (.bool (Tr.sameL l m)) ∧ Up w w' := by
  obtain ⟨A, c, rfl, h1, h2, h3, h4⟩ := h
  obtain ⟨A2, c2, rfl, h12, h22, h32, h42⟩ := k
  have HNL := Lib.hid hnl
  have HNM := Lib.hid hnm
  clear h2 h3 h22 h32 hnl hnm
  by_cases hlm : l.length = m.length
  rotate_left
  · have HF := Lib.hid (Tr.sameL_len hlm)
    have hlm2 : ((l.length : Int) != (m.length : Int)) = true := by simp; omega
    go_enter Try.func19, Try.ntmps19
    go_wp2
    go_ret
    exact ⟨by rw [HF.out]; rfl, Up.refl w⟩
  have HLEN := Lib.hid hlm
  rw [← hlm] at h12 hm ⊢
  clear hlm
  go_enter Try.func19, Try.ntmps19
  go_wp2
  go_loopw [5] (fun s5 wr => ∃ (k : Nat), s5 = .int .i64 k ∧ k ≤ l.length ∧ Hid (Tr.sameL (l.drop k) (m.drop k) = Tr.sameL l m) ∧ Up w wr) (fun s5 _ => l.length - (intOf s5).toNat)
  case atStart => exact ⟨0, rfl, Nat.zero_le _, Lib.hid rfl, Up.refl w⟩
  case round =>
    obtain ⟨k, rfl, hk, HG, hup⟩ := hrel
    by_cases hlt : k < l.length
    · have hlt0 := hlt
      have hlt2 : k < m.length := by rw [← HLEN.out]; exact hlt
      obtain ⟨b, o, rfl, hb, g1, g2, u, g3, g4⟩ := (h4.up hup).at_ hlt
      obtain ⟨b', o', rfl, hb', g1', g2', u', g3', g4'⟩ := (h42.up hup).at_ hlt2
      have hn := HNL.out l[k] (List.getElem_mem hlt)
      have hn' := HNM.out m[k] (List.getElem_mem hlt2)
      have HD := Lib.hid (Tr.sameL_drop hlt hlt2)
      rw [HG.out] at HD
      generalize l[k] = x at *
      generalize m[k] = y at *
      obtain ⟨B, d, rfl⟩ := g4.form
      obtain ⟨B', d', rfl⟩ := g4'.form
      obtain ⟨p1, p2, p3⟩ := x
      obtain ⟨q1, q2, q3⟩ := y
      simp only at g1 g2 g3 g4 g1' g2' g3' g4' hn hn' ⊢
      have k1 : (k : Int) < (l.length : Int) := by omega
      have k0 : (0 : Int) ≤ (k : Int) := by omega
      have kk : ((k : Int)).toNat = k := by omega
      by_cases hop : p1 = q1
      · subst hop
        by_cases hi : p2 = q2
        · subst hi
          by_cases hv : Wd.val p3 = Wd.val q3
          · have HN : Hid (Tr.sameL (l.drop (k + 1)) (m.drop (k + 1)) = Tr.sameL l m) := Lib.hid (by rw [HD.out]; simp [Tr.same1, hv])
            have HC : ∀ n, Calls Try.prog 99 #[.slice B p3.length d, .slice B' q3.length d'] (wr.drewN n) fun e w' => e = .returned (.int .i64 0) ∧ w' = wr.drewN n := fun n => by
              have := ref_cmp (w := wr.drewN n) (g4.up ((Up.refl wr).drewN n)) (g4'.up ((Up.refl wr).drewN n)) (by omega) (by omega)
              rw [Wd.cmpI_eq hv] at this
              exact this.mono fun _ _ h => ⟨h.1, h.2.symm⟩
            clear hv
            go_wp2
            go_quiet ((go_at_call 99; exact Calls.quiet_of_same (HC _)))
            go_wp2
            go_roundw
            case rel => exact ⟨k + 1, by go_num, by omega, HN, hup.drewN _⟩
            case measure => simp [intOf]; omega
          · have HN : Hid (Tr.sameL l m = false) := Lib.hid (by rw [HD.out]; simp [Tr.same1, hv])
            obtain ⟨r, hr, hr0⟩ : ∃ r, Wd.cmpI (Wd.val p3) (Wd.val q3) = r ∧ (r != 0) = true := ⟨_, rfl, by rcases Wd.cmpI_cases (Wd.val p3) (Wd.val q3) with h | h | h <;> simp [h]; exact absurd h.1 hv⟩
            have HC : ∀ n, Calls Try.prog 99 #[.slice B p3.length d, .slice B' q3.length d'] (wr.drewN n) fun e w' => e = .returned (.int .i64 r) ∧ w' = wr.drewN n := fun n => by
              have := ref_cmp (w := wr.drewN n) (g4.up ((Up.refl wr).drewN n)) (g4'.up ((Up.refl wr).drewN n)) (by omega) (by omega)
              rw [hr] at this
              exact this.mono fun _ _ h => ⟨h.1, h.2.symm⟩
            clear hv hr
            go_wp2
            go_quiet ((go_at_call 99; exact Calls.quiet_of_same (HC _)))
            go_wp2
            go_ret
            exact ⟨by rw [HN.out]; rfl, hup.drewN _⟩
        · have HN : Hid (Tr.sameL l m = false) := Lib.hid (by rw [HD.out]; simp [Tr.same1, hi])
          have hi2 : (p2 != q2) = true := by simpa using hi
          go_wp2
          go_quiet (fail)
          go_wp2
          go_ret
          exact ⟨by rw [HN.out]; rfl, hup.drewN _⟩
      · have HN : Hid (Tr.sameL l m = false) := Lib.hid (by rw [HD.out]; simp [Tr.same1, hop])
        have hi2 : (p1 != q1) = true := by simpa using hop
        go_wp2
        go_quiet (fail)
        go_wp2
        go_ret
        exact ⟨by rw [HN.out]; rfl, hup.drewN _⟩
    · obtain rfl : k = l.length := by omega
      have HN : Hid (Tr.sameL l m = true) := Lib.hid (by rw [← HG.out, List.drop_length, HLEN.out, List.drop_length]; rfl)
      go_wp2
      go_ret
      exact ⟨by rw [HN.out]; rfl, hup⟩

set_option maxRecDepth 100000 in
set_option maxHeartbeats 6400000 in
theorem tree_same_any {v u : Value} {l m : List Tr.Nd} {w : World} (h : Nds w v l) (k : Nds w u m) (hl : l.length ≤ 1000000) (hm : m.length ≤ 1000000) (hnl : ∀ x ∈ l, x.n.length ≤ 1000000) (hnm : ∀ x ∈ m, x.n.length ≤ 1000000) :
    Calls Try.prog 100 #[v, u] w fun e w' => e = .returned (.bool (Tr.sameL l m)) ∧ Up w w' := by
  obtain ⟨A, c, rfl, h1, h2, h3, h4⟩ := h
  obtain ⟨A2, c2, rfl, h12, h22, h32, h42⟩ := k
  have HNL := Lib.hid hnl
  have HNM := Lib.hid hnm
  clear h2 h3 h22 h32 hnl hnm
  by_cases hlm : l.length = m.length
  rotate_left
  · have HF := Lib.hid (Tr.sameL_len hlm)
    have hlm2 : ((l.length : Int) != (m.length : Int)) = true := by simp; omega
    go_enter Try.func100, Try.ntmps100
    go_wp2
    go_ret
    exact ⟨by rw [HF.out]; rfl, Up.refl w⟩
  have HLEN := Lib.hid hlm
  rw [← hlm] at h12 hm ⊢
  clear hlm
  go_enter Try.func100, Try.ntmps100
  go_wp2
  go_loopw [5, 6, 7, 15] (fun _ _ _ s15 wr => ∃ (k : Nat), s15 = .int .i64 k ∧ k ≤ l.length ∧ Hid (Tr.sameL (l.drop k) (m.drop k) = Tr.sameL l m) ∧ Up w wr) (fun _ _ _ s15 _ => l.length - (intOf s15).toNat)
  case atStart => exact ⟨0, rfl, Nat.zero_le _, Lib.hid rfl, Up.refl w⟩
  case round =>
    obtain ⟨k, rfl, hk, HG, hup⟩ := hrel
    by_cases hlt : k < l.length
    · have hlt0 := hlt
      have hlt2 : k < m.length := by rw [← HLEN.out]; exact hlt
      obtain ⟨b, o, rfl, hb, g1, g2, u, g3, g4⟩ := (h4.up hup).at_ hlt
      obtain ⟨b', o', rfl, hb', g1', g2', u', g3', g4'⟩ := (h42.up hup).at_ hlt2
      have hn := HNL.out l[k] (List.getElem_mem hlt)
      have hn' := HNM.out m[k] (List.getElem_mem hlt2)
      have HD := Lib.hid (Tr.sameL_drop hlt hlt2)
      rw [HG.out] at HD
      generalize l[k] = x at *
      generalize m[k] = y at *
      obtain ⟨B, d, rfl⟩ := g4.form
      obtain ⟨B', d', rfl⟩ := g4'.form
      obtain ⟨p1, p2, p3⟩ := x
      obtain ⟨q1, q2, q3⟩ := y
      simp only at g1 g2 g3 g4 g1' g2' g3' g4' hn hn' ⊢
      have k1 : (k : Int) < (l.length : Int) := by omega
      have k0 : (0 : Int) ≤ (k : Int) := by omega
      have kk : ((k : Int)).toNat = k := by omega
      have uu : Up wr ((wr.alloc (.cells #[.int .i64 p1, .int .i64 p2, .slice B p3.length d] 135)).alloc (.cells #[.int .i64 q1, .int .i64 q2, .slice B' q3.length d'] 135)) := ((Up.refl _).alloc _).alloc _
      have hup2 := hup.trans uu
      by_cases hop : p1 = q1
      · subst hop
        by_cases hi : p2 = q2
        · subst hi
          have hc := @nat_cmp
          by_cases hv : Wd.val p3 = Wd.val q3
          · have HN : Hid (Tr.sameL (l.drop (k + 1)) (m.drop (k + 1)) = Tr.sameL l m) := Lib.hid (by rw [HD.out]; simp [Tr.same1, hv])
            have HR := Lib.hid (Wd.cmpI_eq hv)
            clear hv hc
            go_wp2_with fail
            refine (nat_cmp (g4.up uu) (g4'.up uu) (by omega) (by omega)).mono ?_
            rintro e w2 ⟨n, rfl, rfl⟩
            rw [HR.out]
            go_wp2
            go_roundw
            case rel => exact ⟨k + 1, by go_num, by omega, HN, hup2.drewN n⟩
            case measure => simp [intOf]; omega
          · have HN : Hid (Tr.sameL l m = false) := Lib.hid (by rw [HD.out]; simp [Tr.same1, hv])
            obtain ⟨r, hr, hr0⟩ : ∃ r, Wd.cmpI (Wd.val p3) (Wd.val q3) = r ∧ (r != 0) = true := ⟨_, rfl, by rcases Wd.cmpI_cases (Wd.val p3) (Wd.val q3) with h | h | h <;> simp [h]; exact absurd h.1 hv⟩
            have HR := Lib.hid hr
            clear hv hc hr
            go_wp2_with fail
            refine (nat_cmp (g4.up uu) (g4'.up uu) (by omega) (by omega)).mono ?_
            rintro e w2 ⟨n, rfl, rfl⟩
            rw [HR.out]
            go_wp2
            go_ret
            exact ⟨by rw [HN.out]; rfl, hup2.drewN n⟩
        · have HN : Hid (Tr.sameL l m = false) := Lib.hid (by rw [HD.out]; simp [Tr.same1, hi])
          have hi2 : (p2 != q2) = true := by simpa using hi
          go_wp2
          go_ret
          exact ⟨by rw [HN.out]; rfl, hup2⟩
      · have HN : Hid (Tr.sameL l m = false) := Lib.hid (by rw [HD.out]; simp [Tr.same1, hop])
        have hi2 : (p1 != q1) = true := by simpa using hop
        go_wp2
        go_ret
        exact ⟨by rw [HN.out]; rfl, hup2⟩
    · obtain rfl : k = l.length := by omega
      have HN : Hid (Tr.sameL l m = true) := Lib.hid (by rw [← HG.out, List.drop_length, HLEN.out, List.drop_length]; rfl)
      go_wp2
      go_ret
      exact ⟨by rw [HN.out]; rfl, hup⟩
end Go.Proofs.Ytmmcffceeahemaa
