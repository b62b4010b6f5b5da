/-
  The walks of the statements of layer 17, the third part: expressions built up.
-/
import Derived.Test.YtelgenhmmfkmhaaTreeLaws2
set_option linter.unusedVariables false
set_option linter.unusedSimpArgs false
namespace Go.Proofs.Ytelgenhmmfkmhaa
open Go.RowKit

/-- An empty row that was just laid. -/
theorem row_empty (w : World) : Row True 75 w (w.alloc (.cells #[] 75)) (.slice (some ⟨w.heap.size, 0, none⟩) 0 0) [] :=
  ⟨by simp, (Up.refl w).alloc _, [], ⟨rfl, by simp⟩, World.ownsRow_made w #[] 0 (Nat.le_refl _) (by simp) (by simp)⟩
/-- Nodes as cells, their numbers old. -/
theorem Nds.open_ {w : World} {A : Option Addr} {n c : Nat} {l : List Tr.Nd} (h : Nds w (.slice A n c) l) : n = l.length ∧ ∃ us, Nums w l us ∧ RdV w A (flat l us) := by
  obtain ⟨_, _, e, _, _, _, hr⟩ := h
  cases e
  exact ⟨rfl, Nds.cells hr⟩

set_option maxRecDepth 100000 in
set_option maxHeartbeats 6400000 in
theorem treeBuilt_walk {v u : Value} {l m : List Tr.Nd} {i : Int} {w : World} (h : Nds w v l) (k : Nds w u m) (hi : I64 i) :
    Calls Try.prog 14 #[v, u, .int .i64 i] w fun e w' => e = .returned (.bool true) ∧ Up w w' := by
  obtain ⟨A, c, rfl⟩ := h.form
  obtain ⟨A', c', rfl⟩ := k.form
  go_enter Try.func14, Try.ntmps14
  go_wp2_with fail
  refine (nodes_long (p := 50) (q := 10) h (by omega) (by omega)).mono ?_
  rintro e W ⟨t, rfl, ht, rfl⟩
  cases t with
  | true =>
    clear ht
    go_wp2_with fail
    refine (tree_works _).mono ?_
    rintro e W1 ⟨rfl, u1⟩
    go_wp2
    go_ret
    exact ⟨rfl, u1⟩
  | false =>
    obtain ⟨hl, hnl0⟩ := ht rfl
    have hl2 : l.length ≤ 1000000 := by omega
    have HNL : Hid (∀ x ∈ l, x.n.length ≤ 1000000) := Lib.hid (fun x hx => Nat.le_trans (hnl0 x hx) (by omega))
    clear ht hnl0
    go_wp2_with fail
    refine (nodes_long (p := 50) (q := 10) k (by omega) (by omega)).mono ?_
    rintro e W ⟨t, rfl, ht, rfl⟩
    cases t with
    | true =>
      clear ht
      go_wp2_with fail
      refine (tree_works _).mono ?_
      rintro e W1 ⟨rfl, u1⟩
      go_wp2
      go_ret
      exact ⟨rfl, u1⟩
    | false =>
      obtain ⟨hm, hnm0⟩ := ht rfl
      have hm2 : m.length ≤ 1000000 := by omega
      have HNM : Hid (∀ x ∈ m, x.n.length ≤ 1000000) := Lib.hid (fun x hx => Nat.le_trans (hnm0 x hx) (by omega))
      clear ht hnm0
      by_cases hw : 0 ≤ Tr.wrongN l
      · obtain ⟨q, hq⟩ : ∃ q : Nat, Tr.wrongN l = q := ⟨(Tr.wrongN l).toNat, by omega⟩
        have HQ := Lib.hid hq
        clear hw hq
        go_wp2_with fail
        refine (ref_wrong_at HQ.out h hl2).mono ?_
        rintro e W ⟨rfl, rfl⟩
        go_wp2_with fail
        refine (tree_works _).mono ?_
        rintro e W1 ⟨rfl, u1⟩
        go_wp2
        go_ret
        exact ⟨rfl, u1⟩
      · obtain ⟨d, hd⟩ := Tr.right_ex (by omega : Tr.wrongN l < 0)
        have HD := Lib.hid hd
        clear hw hd
        go_wp2_with fail
        refine (ref_wrong_at HD.out.right h hl2).mono ?_
        rintro e W ⟨rfl, rfl⟩
        by_cases hw : 0 ≤ Tr.wrongN m
        · obtain ⟨q, hq⟩ : ∃ q : Nat, Tr.wrongN m = q := ⟨(Tr.wrongN m).toNat, by omega⟩
          have HQ := Lib.hid hq
          clear hw hq
          go_wp2_with fail
          refine (ref_wrong_at HQ.out k hm2).mono ?_
          rintro e W ⟨rfl, rfl⟩
          go_wp2_with fail
          refine (tree_works _).mono ?_
          rintro e W1 ⟨rfl, u1⟩
          go_wp2
          go_ret
          exact ⟨rfl, u1⟩
        · obtain ⟨d2, hd2⟩ := Tr.right_ex (by omega : Tr.wrongN m < 0)
          have HD2 := Lib.hid hd2
          clear hw hd2
          go_wp2_with fail
          refine (ref_wrong_at HD2.out.right k hm2).mono ?_
          rintro e W ⟨rfl, rfl⟩
          go_wp2_with fail
          refine (law_to h hl2).mono ?_
          rintro e W1 ⟨V1, rfl, x, U1⟩
          have G1 := (Up.refl w).trans U1
          have h := h.up U1
          have k := k.up U1
          clear U1
          go_wp2_with fail
          refine (law_to k hm2).mono ?_
          rintro e W2 ⟨V2, rfl, y, U2⟩
          have G2 := G1.trans U2
          have h := h.up U2
          have k := k.up U2
          have x := x.up U2
          clear U2 G1
          obtain ⟨A1, c1, rfl⟩ := x.form
          obtain ⟨A2, c2, rfl⟩ := y.form
          obtain ⟨-, us, n1, r1⟩ := x.open_
          obtain ⟨-, vs, n2, r2⟩ := y.open_
          have N1 := Lib.hid n1
          have N2 := Lib.hid n2
          have R1 := Lib.hid r1
          have R2 := Lib.hid r2
          have K1 := Lib.hid x.ok
          have K2 := Lib.hid y.ok
          have X := Lib.hid x
          have Y := Lib.hid y
          clear n1 n2 r1 r2 h k x y
          obtain ⟨lm, hlm⟩ : ∃ lm, lm = l ++ m := ⟨_, rfl⟩
          have HLM := Lib.hid hlm
          have hlm2 : lm.length ≤ 100 := by rw [hlm]; simp; omega
          clear hlm
          go_wp2_with (at_builtin; first
            | (refine wl_append_t rfl (.tmp 37) (.tmp 38) rfl rfl (row_empty W2) (k := l) (vs := us) rfl (R1.out.up ((Up.refl _).alloc _)) (NumsB.old N1.out) K1.out rfl (by simp; omega) ?_; intro v3 w3 h3)
            | (refine wl_append_t rfl (.tmp 39) (.tmp 40) rfl rfl h3 (k := m) (vs := vs) rfl (R2.out.up h3.world) (NumsB.old N2.out) K2.out rfl (by simp; omega) ?_
               intro v4 w4 h4
               have b4 : Nds w4 v4 lm := by rw [HLM.out]; exact h4.nds
               have u4 := h4.world
               clear h3 h4
               obtain ⟨A4, c4, rfl⟩ := b4.form
               obtain ⟨-, us4, n4, r4⟩ := b4.open_
               have N4 := Lib.hid n4
               have R4 := Lib.hid r4
               have K4 := Lib.hid b4.ok
               have B4 := Lib.hid b4
               clear n4 r4 b4)
            | (refine wl_append_t rfl (.tmp 42) (.tmp 43) rfl rfl (row_empty w4) (k := lm) (vs := us4) rfl (R4.out.up ((Up.refl _).alloc _)) (NumsB.old N4.out) K4.out rfl (by simp; omega) ?_; intro v5 w5 h5)
            | (refine wl_append_t rfl (.tmp 44) (.tmp 46) rfl rfl (h5.up ((Up.refl _).alloc _)) (k := [leaf 8]) (vs := [.slice none 0 0]) rfl (node_new w5 (leaf 8) _ _) (NumsB.one_old (Ws.nil _)) (by simp [leaf, I64]) rfl (by simp; omega) ?_
               intro v6 w6 h6
               have s6 : Nds w6 v6 (lm ++ [leaf 8]) := h6.nds
               have u6 := u4.trans h6.world
               have u46 := h6.world
               have S6 := Lib.hid s6
               clear h5 h6 s6)
            | (refine wl_append_t rfl (.tmp 48) (.tmp 49) rfl rfl (row_empty w6) (k := l) (vs := us) rfl (R1.out.up (u6.alloc _)) (NumsB.old (N1.out.up u6)) K1.out rfl (by simp; omega) ?_; intro v7 w7 h7)
            | (refine wl_append_t rfl (.tmp 50) (.tmp 53) rfl rfl (h7.up ((Up.refl _).alloc _)) (k := [⟨11, i, []⟩]) (vs := [.slice none 0 0]) rfl (node_new w7 ⟨11, i, []⟩ _ _) (NumsB.one_old (Ws.nil _)) (by intro y hy; simp at hy; subst hy; exact ⟨by simp [I64], hi⟩) rfl (by simp; omega) ?_
               intro v8 w8 h8
               have p8 : Nds w8 v8 (l ++ [⟨11, i, []⟩]) := h8.nds
               have u68 := h8.world
               clear h7 h8))
          have g8 := (G2.trans u6).trans u68
          have x8 := X.out.up (u6.trans u68)
          have y8 := Y.out.up (u6.trans u68)
          have b8 := B4.out.up (u46.trans u68)
          have h11 : Tr.arN (Tr.Nd.mk 11 i []).op = 1 := by show Tr.arN 11 = 1; decide
          have h8 : Tr.arN (leaf 8).op = 2 := by decide
          have EX : Hid (Tr.Ex (lm ++ [leaf 8]) _) := Lib.hid (by rw [HLM.out]; exact Tr.Ex.two (leaf 8) l m d d2 h8 HD.out HD2.out)
          have PT : Hid (Tr.Pt (lm ++ [leaf 8]) [l, m] [d, d2]) := Lib.hid (by rw [HLM.out]; exact Tr.Pt.two (leaf 8) l m d d2 h8 HD.out HD2.out)
          have EX1 := Lib.hid (Tr.Ex.one _ l d h11 HD.out)
          have PT1 := Lib.hid (Tr.Pt.one _ l d h11 HD.out)
          have HW : Hid (Tr.wrongN lm = lm.length) := Lib.hid (by rw [HLM.out]; exact Tr.wrong_two HD.out HD2.out)
          have NL1 : Hid (∀ y ∈ lm ++ [leaf 8], y.n.length ≤ 1000000) := Lib.hid (fun y hy => by
            rw [HLM.out] at hy
            simp only [List.mem_append, List.mem_singleton] at hy
            rcases hy with (hy | hy) | rfl
            · exact HNL.out y hy
            · exact HNM.out y hy
            · simp [leaf])
          have NL2 : Hid (∀ y ∈ l ++ [⟨11, i, []⟩], y.n.length ≤ 1000000) := Lib.hid (fun y hy => by
            simp only [List.mem_append, List.mem_singleton] at hy
            rcases hy with hy | rfl
            · exact HNL.out y hy
            · simp)
          have s8 := S6.out.up u68
          clear h11 h8 S6 X Y B4 N4 R4 K4 u4 u6 u46 u68 N1 N2 R1 R2 K1 K2 G2
          refine (tree_parts s8 (by simp; omega) NL1.out EX.out.right PT.out).mono ?_
          rintro e w9 ⟨V9, rfl, q9, u9⟩
          obtain ⟨B9, c9, e9⟩ := q9.form
          change V9 = Value.slice B9 2 c9 at e9
          subst e9
          have p9 := p8.up u9
          have g9 := g8.trans u9
          have x9 := x8.up u9
          have y9 := y8.up u9
          have b9 := b8.up u9
          clear s8 p8 g8 x8 y8 b8 u9
          go_wp2_with fail
          refine (tree_parts p9 (by simp; omega) NL2.out EX1.out.right PT1.out).mono ?_
          rintro e w10 ⟨V10, rfl, q10, u10⟩
          obtain ⟨B10, c10, e10⟩ := q10.form
          change V10 = Value.slice B10 1 c10 at e10
          subst e10
          have q9 := q9.up u10
          have g10 := g9.trans u10
          have x10 := x9.up u10
          have y10 := y9.up u10
          have b10 := b9.up u10
          clear p9 g9 x9 y9 b9 u10
          obtain ⟨b, o, u0, rfl, hb, k0, n0⟩ := q9.at_ (k := 0) (by simp)
          obtain ⟨b', o', u1, e', hb', k1, n1⟩ := q9.at_ (k := 1) (by simp)
          cases e'
          obtain ⟨b2, o2, u2, rfl, hb2, k2, n2⟩ := q10.at_ (k := 0) (by simp)
          have n0 : Nds w10 u0 l := n0
          have n1 : Nds w10 u1 m := n1
          have n2 : Nds w10 u2 l := n2
          have C0 : Hid (∀ w', Up w10 w' → w'.cell? ⟨b, o, none⟩ = some u0) := Lib.hid (fun w' hu => (hu.cell (p := ⟨b, o + 0, none⟩) hb).trans k0)
          have C1 : Hid (∀ w', Up w10 w' → w'.cell? ⟨b, o + 1, none⟩ = some u1) := Lib.hid (fun w' hu => (hu.cell (p := ⟨b, o + 1, none⟩) hb).trans k1)
          have C2 : Hid (∀ w', Up w10 w' → w'.cell? ⟨b2, o2, none⟩ = some u2) := Lib.hid (fun w' hu => (hu.cell (p := ⟨b2, o2 + 0, none⟩) hb2).trans k2)
          clear k0 k1 k2 hb hb' hb2 q9 q10
          go_wp2_with fail
          refine (tree_wrong_at HW.out b10 (by omega)).mono ?_
          rintro e w11 ⟨rfl, u11⟩
          have k0 := C0.out w11 u11
          go_wp2_with fail
          refine (nodes_same_t (n0.up u11) (x10.up u11) hl2 HNL.out).mono ?_
          rintro e w12 ⟨rfl, u12⟩
          have u12 := u11.trans u12
          have k1 := C1.out w12 u12
          clear k0 u11
          go_wp2_with fail
          refine (nodes_same_t (n1.up u12) (y10.up u12) hm2 HNM.out).mono ?_
          rintro e w13 ⟨rfl, u13⟩
          have u13 := u12.trans u13
          have k2 := C2.out w13 u13
          clear k1 u12
          go_wp2_with fail
          refine (nodes_same_t (n2.up u13) (x10.up u13) hl2 HNL.out).mono ?_
          rintro e w14 ⟨rfl, u14⟩
          have u14 := u13.trans u14
          clear k2 u13
          go_wp2_with fail
          refine (tree_works _).mono ?_
          rintro e w15 ⟨rfl, u15⟩
          go_wp2
          go_ret
          exact ⟨rfl, (g10.trans u14).trans u15⟩
end Go.Proofs.Ytelgenhmmfkmhaa
