/-
  The walks of the statements of layer 17.
-/
import Derived.Test.YtelgenhmmfkmhaaTreeSame
set_option linter.unusedVariables false
set_option linter.unusedSimpArgs false
theorem Tr.Pt.few {l : List Tr.Nd} {ps : List (List Tr.Nd)} {ds : List Nat} (h : Tr.Pt l ps ds) : ps.length ≤ 2 := by cases h <;> simp
theorem Tr.Pt.sub {l : List Tr.Nd} {ps : List (List Tr.Nd)} {ds : List Nat} (h : Tr.Pt l ps ds) : ∀ p ∈ ps, p.length ≤ l.length ∧ ∀ x ∈ p, x ∈ l := by
  cases h with
  | leaf x h => simp
  | one x a d h ha => intro p hp; simp at hp; subst hp; exact ⟨by simp, fun x hx => by simp [hx]⟩
  | two x a b d e h ha hb =>
    intro p hp
    simp at hp
    rcases hp with rfl | rfl
    · exact ⟨by simp, fun x hx => by simp [hx]⟩
    · exact ⟨by simp; omega, fun x hx => by simp [hx]⟩
namespace Go.Proofs.Ytelgenhmmfkmhaa
open Go.RowKit

theorem tree_wrong_at {v : Value} {l : List Tr.Nd} {w : World} {m : Int} (hm : Tr.wrongN l = m) (h : Nds w v l) (hl : l.length ≤ 1000000) :
    Calls Try.prog 49 #[v] w fun e w' => e = .returned (.int .i64 m) ∧ Up w w' := by subst hm; exact tree_wrong h hl
theorem tree_right_at {v : Value} {l : List Tr.Nd} {w : World} {t : Bool} (hm : decide (Tr.wrongN l < 0) = t) (h : Nds w v l) (hl : l.length ≤ 1000000) :
    Calls Try.prog 50 #[v] w fun e w' => e = .returned (.bool t) ∧ Up w w' := by subst hm; exact tree_right h hl
theorem ref_wrong_at {v : Value} {l : List Tr.Nd} {w : World} {m : Int} (hm : Tr.wrongN l = m) (h : Nds w v l) (hl : l.length ≤ 1000000) :
    Calls Try.prog 48 #[v] w fun e w' => e = .returned (.int .i64 m) ∧ w = w' := by subst hm; exact ref_wrong h hl
theorem tree_arity_at {op m : Int} (hm : Tr.arN op = m) (h : I64 op) (w : World) : Calls Try.prog 53 #[.int .i64 op] w fun e w' => e = .returned (.int .i64 m) ∧ w = w' := by subst hm; exact tree_arity h w
theorem ref_arity_at {op m : Int} (hm : Tr.arN op = m) (h : I64 op) (w : World) : Calls Try.prog 54 #[.int .i64 op] w fun e w' => e = .returned (.int .i64 m) ∧ w = w' := by subst hm; exact ref_arity h w

set_option maxRecDepth 100000 in
set_option maxHeartbeats 6400000 in
theorem treeTells_walk {v : Value} {l : List Tr.Nd} {op : Int} {w : World} (h : Nds w v l) (ho : I64 op) :
    Calls Try.prog 7 #[v, .int .i64 op] w fun e w' => e = .returned (.bool true) ∧ Up w w' := by
  obtain ⟨am, ham⟩ : ∃ m, Tr.arN op = m := ⟨_, rfl⟩
  have HAM := Lib.hid ham
  clear ham
  obtain ⟨A, c, rfl⟩ := h.form
  go_enter Try.func7, Try.ntmps7
  go_wp2_with fail
  refine (nodes_long (p := 200) (q := 10) h (by omega) (by omega)).mono ?_
  rintro e W ⟨t, rfl, ht, rfl⟩
  cases t with
  | true =>
    clear ht
    go_wp2_with fail
    refine (tree_works _).mono ?_
    rintro e W1 ⟨rfl, U1⟩
    have G1 := (Up.refl w).trans U1
    clear U1
    go_wp2
    go_ret
    exact ⟨rfl, G1⟩
  | false =>
    obtain ⟨hl, hnl0⟩ := ht rfl
    have hl2 : l.length ≤ 1000000 := by omega
    have hnl : ∀ x ∈ l, x.n.length ≤ 1000000 := fun x hx => Nat.le_trans (hnl0 x hx) (by omega)
    have HNL := Lib.hid hnl
    clear ht hnl0 hnl
    go_wp2_with fail
    refine (law_to h hl2).mono ?_
    rintro e W1 ⟨V1, rfl, to, U1⟩
    have G1 := (Up.refl w).trans U1
    have h := h.up U1
    clear U1
    by_cases hw : Tr.wrongN l < 0
    · obtain ⟨d, hd⟩ := Tr.right_ex hw
      obtain ⟨ps, ds, hp, -⟩ := hd.parts
      have HD := Lib.hid hd
      have HP := Lib.hid hp
      have HR : Hid (decide (Tr.wrongN l < 0) = true) := Lib.hid (decide_eq_true hw)
      clear hw hd hp
      go_wp2_with fail
      refine (tree_parts to hl2 HNL.out HD.out.right HP.out).mono ?_
      rintro e W2 ⟨V2, rfl, ap, U2⟩
      have G2 := G1.trans U2
      have h := h.up U2
      have to := to.up U2
      clear U2 G1
      obtain ⟨B, cb, rfl⟩ := ap.form
      go_wp2_with fail
      refine (ref_wrong_at HD.out.right h hl2).mono ?_
      rintro e w3_ ⟨rfl, rfl⟩
      go_wp2_with fail
      refine (tree_wrong_at HD.out.right to hl2).mono ?_
      rintro e W4 ⟨rfl, U4⟩
      have G4 := G2.trans U4
      have h := h.up U4
      have to := to.up U4
      have ap := ap.up U4
      clear U4 G2
      go_wp2_with fail
      refine (tree_right_at HR.out to hl2).mono ?_
      rintro e W5 ⟨rfl, U5⟩
      have G5 := G4.trans U5
      have h := h.up U5
      have to := to.up U5
      have ap := ap.up U5
      clear U5 G4
      go_wp2_with fail
      refine (tree_depth to hl2 HD.out).mono ?_
      rintro e W6 ⟨rfl, U6⟩
      have G6 := G5.trans U6
      have h := h.up U6
      have to := to.up U6
      have ap := ap.up U6
      clear U6 G5
      go_wp2_with fail
      refine (ref_depth h hl2 HD.out).mono ?_
      rintro e w7_ ⟨rfl, rfl⟩
      go_wp2_with fail
      refine (tree_arity_at HAM.out ho _).mono ?_
      rintro e w8_ ⟨rfl, rfl⟩
      go_wp2_with fail
      refine (ref_arity_at HAM.out ho _).mono ?_
      rintro e w9_ ⟨rfl, rfl⟩
      go_wp2_with fail
      refine (ref_parts h hl2 HP.out).mono ?_
      rintro e W10 ⟨V10, rfl, bp, U10⟩
      have G10 := G6.trans U10
      have h := h.up U10
      have to := to.up U10
      have ap := ap.up U10
      clear U10 G6
      obtain ⟨B', cb', rfl⟩ := bp.form
      have HPL : Hid (∀ p ∈ ps, p.length ≤ 1000000 ∧ ∀ x ∈ p, x.n.length ≤ 1000000) := Lib.hid (fun p hpm => by
        have hs := HP.out.sub p hpm
        exact ⟨Nat.le_trans hs.1 hl2, fun x hx => HNL.out x (hs.2 x hx)⟩)
      have hps : ps.length ≤ 2 := HP.out.few
      have AP := Lib.hid ap
      have BP := Lib.hid bp
      clear ap bp h to
      go_wp2_with fail
      go_loopw [10] (fun s10 wr => ∃ k : Nat, s10 = .int .i64 k ∧ k ≤ ps.length ∧ Up W10 wr) (fun s10 _ => ps.length - (intOf s10).toNat)
      case atStart => exact ⟨0, rfl, Nat.zero_le _, Up.refl _⟩
      case round =>
        obtain ⟨k, rfl, hk, hup⟩ := hrel
        by_cases hlt : k < ps.length
        · obtain ⟨b, o, u, rfl, hb, c1, n1⟩ := (AP.out.up hup).at_ hlt
          obtain ⟨b', o', u', rfl, hb', c2, n2⟩ := (BP.out.up hup).at_ hlt
          have HL := Lib.hid (HPL.out ps[k] (List.getElem_mem hlt))
          generalize ps[k] = p at *
          have N1 := Lib.hid n1
          have N2 := Lib.hid n2
          have HOLD : Hid (∀ w', Up wr w' → w'.cell? ⟨b, o + k, none⟩ = some u ∧ w'.cell? ⟨b', o' + k, none⟩ = some u') := Lib.hid (fun w' hu => ⟨(hu.cell (p := ⟨b, o + k, none⟩) hb).trans c1, (hu.cell (p := ⟨b', o' + k, none⟩) hb').trans c2⟩)
          have k1 : (k : Int) < (ps.length : Int) := by omega
          have k0 : (0 : Int) ≤ (k : Int) := by omega
          have kk : ((k : Int)).toNat = k := by omega
          clear n1 n2
          go_wp2_with fail
          go_region_held3 (fun w' => w'.cell? ⟨b, o + k, none⟩ = some u ∧ w'.cell? ⟨b', o' + k, none⟩ = some u')
            (first | go_keep | exact HOLD.out _ q2 | exact HOLD.out _ (q2.trans u3))
            (first
              | (go_at_call 57
                 refine (law_of (N1.out.up (by first | exact Up.refl _ | exact (Up.refl _).drew)) HL.out.1).mono ?_
                 rintro e w2 ⟨v2, rfl, m2, u2⟩
                 have q2 : Up wr w2 := by first | exact u2 | exact ((Up.refl _).drew).trans u2)
              | (go_at_call 56
                 refine (nodes_same m2 (N2.out.up q2) HL.out.1 HL.out.2).mono ?_
                 rintro e w3 ⟨rfl, u3⟩))
          all_goals
            have up3 := hup.trans (q2.trans u3)
            clear c1 c2 u2
            go_wp2
            go_roundw
            case rel => exact ⟨k + 1, by go_num, by omega, up3⟩
            case measure => simp [intOf]; omega
        · obtain rfl : k = ps.length := by omega
          have hup0 := G10.trans hup
          go_wp2_with fail
          refine (tree_works _).mono ?_
          rintro e w2 ⟨rfl, u2⟩
          go_wp2
          go_ret
          exact ⟨rfl, hup0.trans u2⟩
    · have HR : Hid (decide (Tr.wrongN l < 0) = false) := Lib.hid (decide_eq_false hw)
      have hw0 : 0 ≤ Tr.wrongN l := by omega
      obtain ⟨m, hm⟩ : ∃ m : Nat, Tr.wrongN l = m := ⟨(Tr.wrongN l).toNat, by omega⟩
      have HM := Lib.hid hm
      clear hw hm
      go_wp2_with fail
      refine (tree_parts_no to hl2 hw0).mono ?_
      rintro e W2 ⟨V2, rfl, ap, U2⟩
      have G2 := G1.trans U2
      have h := h.up U2
      have to := to.up U2
      clear U2 G1
      obtain ⟨B, cb, rfl⟩ := ap.form
      go_wp2_with fail
      refine (ref_wrong_at HM.out h hl2).mono ?_
      rintro e w3_ ⟨rfl, rfl⟩
      go_wp2_with fail
      refine (tree_wrong_at HM.out to hl2).mono ?_
      rintro e W4 ⟨rfl, U4⟩
      have G4 := G2.trans U4
      have h := h.up U4
      have to := to.up U4
      have ap := ap.up U4
      clear U4 G2
      go_wp2_with fail
      refine (tree_right_at HR.out to hl2).mono ?_
      rintro e W5 ⟨rfl, U5⟩
      have G5 := G4.trans U5
      have h := h.up U5
      have to := to.up U5
      have ap := ap.up U5
      clear U5 G4
      go_wp2_with fail
      refine (tree_depth_no to hl2 hw0).mono ?_
      rintro e W6 ⟨rfl, U6⟩
      have G6 := G5.trans U6
      have h := h.up U6
      have to := to.up U6
      have ap := ap.up U6
      clear U6 G5
      go_wp2_with fail
      refine (ref_depth_no h hl2 hw0).mono ?_
      rintro e w7_ ⟨rfl, rfl⟩
      go_wp2_with fail
      refine (tree_arity_at HAM.out ho _).mono ?_
      rintro e w8_ ⟨rfl, rfl⟩
      go_wp2_with fail
      refine (ref_arity_at HAM.out ho _).mono ?_
      rintro e w9_ ⟨rfl, rfl⟩
      go_wp2_with fail
      refine (tree_works _).mono ?_
      rintro e W10 ⟨rfl, U10⟩
      have G10 := G6.trans U10
      have h := h.up U10
      have to := to.up U10
      have ap := ap.up U10
      clear U10 G6
      go_wp2
      go_ret
      exact ⟨rfl, G10⟩
end Go.Proofs.Ytelgenhmmfkmhaa
