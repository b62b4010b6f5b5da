/-
  Layer 17: TreeFields, the walk.
-/
import Derived.Test.YtmmcffceeahemaaTreeBox
import Derived.Test.YtmmcffceeahemaaToField
import Derived.Test.YtmmcffceeahemaaTreeLaws
import Derived.Test.YtmmcffceeahemaaSize
import Derived.Test.YtmmcffceeahemaaCodes2
set_option linter.unusedVariables false
set_option linter.unusedSimpArgs false
namespace Go.Proofs.Ytmmcffceeahemaa
open Go.RowKit

theorem cell_alloc {w : World} {o : Obj} {v : Value} {q : Addr} (h : w.cell? q = some v) : (w.alloc o).cell? q = some v := (World.cell?_alloc_lt w o q (World.block_lt_of_cell? w _ h)).trans h
theorem Fld.form {w : World} {v : Value} {F : Tr.Fd} (h : Fld w v F) : ∃ A c B d, v = .agg #[.slice A F.lets.length c, .slice B F.outs.length d] := by
  obtain ⟨a, b, rfl, ha, hb⟩ := h
  obtain ⟨A, c, rfl⟩ := ha.form
  obtain ⟨B, d, rfl⟩ := hb.form
  exact ⟨_, _, _, _, rfl⟩
theorem long_12 {v : Value} {F : Tr.Fd} {w : World} (h : Fld w v F) : Calls Try.prog 14 #[v, .int .i64 12, .int .i64 100, .int .i64 10] w (RetLF F 12 100 10 w) := ref_longField h (p := 12) (m := 100) (q := 10) (by omega) (by omega) (by omega)
theorem tree_sameSelf {v : Value} {F : Tr.Fd} {w : World} (h : Fld w v F) (hs : F.Small 12 100 10) :
    Calls Try.prog 23 #[v, v] w fun e w' => e = .returned (.bool true) ∧ Up w w' := by
  have := tree_sameField h h hs hs
  rw [Tr.Fd.same_self] at this
  exact this

set_option maxRecDepth 100000 in
set_option maxHeartbeats 12800000 in
theorem treeFields_walk {v u : Value} {F G : Tr.Fd} {w : World} (h : Fld w v F) (k : Fld w u G) :
    Calls Try.prog 3 #[v, u] w fun e w' => e = .returned (.bool true) ∧ Up w w' := by
  obtain ⟨A, c, B, d, rfl⟩ := h.form
  obtain ⟨A', c', B', d', rfl⟩ := k.form
  have UP : Up w ((w.alloc (.cells #[.slice A F.lets.length c, .slice B F.outs.length d] 25)).alloc (.cells #[.slice A' G.lets.length c', .slice B' G.outs.length d'] 25)) := ((Up.refl w).alloc _).alloc _
  obtain ⟨b1, b2⟩ := bx_two 25 25 w [.slice A F.lets.length c, .slice B F.outs.length d] [.slice A' G.lets.length c', .slice B' G.outs.length d']
  go_enter Try.func3, Try.ntmps3
  go_wp2_with fail
  generalize ((w.alloc (.cells #[.slice A F.lets.length c, .slice B F.outs.length d] 25)).alloc (.cells #[.slice A' G.lets.length c', .slice B' G.outs.length d'] 25)) = W at *
  replace h := h.up UP
  replace k := k.up UP
  obtain ⟨b1_0, b1_1⟩ := b1.c2
  obtain ⟨b2_0, b2_1⟩ := b2.c2
  go_wp2_with fail
  ((with_reducible refine (long_12 h).mono ?_))
  rintro e W1 ⟨t1, rfl, ht1, u1⟩
  replace h := h.up u1
  replace k := k.up u1
  replace b1 := b1.up u1
  replace b2 := b2.up u1
  replace UP := UP.trans u1
  clear b1_0 b1_1 b2_0 b2_1
  obtain ⟨b1_0, b1_1⟩ := b1.c2
  obtain ⟨b2_0, b2_1⟩ := b2.c2
  clear u1
  cases t1 with
  | true =>
    clear ht1
    go_wp2_with fail
    ((with_reducible refine (tree_works _).mono ?_))
    rintro e W2 ⟨rfl, u2⟩
    replace h := h.up u2
    replace k := k.up u2
    replace b1 := b1.up u2
    replace b2 := b2.up u2
    replace UP := UP.trans u2
    clear b1_0 b1_1 b2_0 b2_1
    obtain ⟨b1_0, b1_1⟩ := b1.c2
    obtain ⟨b2_0, b2_1⟩ := b2.c2
    clear u2
    go_wp2
    go_ret
    exact ⟨rfl, UP⟩
  | false =>
    have HSF := Lib.hid (ht1 rfl)
    clear ht1
    go_wp2_with fail
    ((with_reducible refine (long_12 k).mono ?_))
    rintro e W2 ⟨t2, rfl, ht2, u2⟩
    replace h := h.up u2
    replace k := k.up u2
    replace b1 := b1.up u2
    replace b2 := b2.up u2
    replace UP := UP.trans u2
    clear b1_0 b1_1 b2_0 b2_1
    obtain ⟨b1_0, b1_1⟩ := b1.c2
    obtain ⟨b2_0, b2_1⟩ := b2.c2
    clear u2
    cases t2 with
    | true =>
      clear ht2
      go_wp2_with fail
      ((with_reducible refine (tree_works _).mono ?_))
      rintro e W3 ⟨rfl, u3⟩
      replace h := h.up u3
      replace k := k.up u3
      replace b1 := b1.up u3
      replace b2 := b2.up u3
      replace UP := UP.trans u3
      clear b1_0 b1_1 b2_0 b2_1
      obtain ⟨b1_0, b1_1⟩ := b1.c2
      obtain ⟨b2_0, b2_1⟩ := b2.c2
      clear u3
      go_wp2
      go_ret
      exact ⟨rfl, UP⟩
    | false =>
      have HSG := Lib.hid (ht2 rfl)
      clear ht2
      go_wp2_with fail
      ((with_reducible refine (law_toField h HSF.out).mono ?_))
      rintro e W3 ⟨V3, rfl, x, u3⟩
      replace h := h.up u3
      replace k := k.up u3
      replace b1 := b1.up u3
      replace b2 := b2.up u3
      replace UP := UP.trans u3
      clear b1_0 b1_1 b2_0 b2_1
      obtain ⟨b1_0, b1_1⟩ := b1.c2
      obtain ⟨b2_0, b2_1⟩ := b2.c2
      clear u3
      obtain ⟨X, cx, Y, cy, rfl⟩ := x.form
      have HC := Lib.hid HSF.out.codes
      have b1_0a := fun O0 => (cell_alloc (o := O0) b1_0)
      have b1_1a := fun O0 => (cell_alloc (o := O0) b1_1)
      have b2_0a := fun O0 => (cell_alloc (o := O0) b2_0)
      have b2_1a := fun O0 => (cell_alloc (o := O0) b2_1)
      go_wp2_with fail
      clear b1_0a b1_1a b2_0a b2_1a
      have b3 := Bx.new 31 W3 [.slice X F.lets.length cx, .slice Y F.outs.length cy]
      have b1_lt_b3 := b1.lt
      have b2_lt_b3 := b2.lt
      replace h := h.up ((Up.refl W3).alloc (.cells #[.slice X F.lets.length cx, .slice Y F.outs.length cy] 31))
      replace k := k.up ((Up.refl W3).alloc (.cells #[.slice X F.lets.length cx, .slice Y F.outs.length cy] 31))
      replace x := x.up ((Up.refl W3).alloc (.cells #[.slice X F.lets.length cx, .slice Y F.outs.length cy] 31))
      replace b1 := b1.up ((Up.refl W3).alloc (.cells #[.slice X F.lets.length cx, .slice Y F.outs.length cy] 31))
      replace b2 := b2.up ((Up.refl W3).alloc (.cells #[.slice X F.lets.length cx, .slice Y F.outs.length cy] 31))
      replace UP := UP.trans ((Up.refl W3).alloc (.cells #[.slice X F.lets.length cx, .slice Y F.outs.length cy] 31))
      generalize (W3.alloc (.cells #[.slice X F.lets.length cx, .slice Y F.outs.length cy] 31)) = W4 at *
      clear b1_0 b1_1 b2_0 b2_1
      obtain ⟨b1_0, b1_1⟩ := b1.c2
      obtain ⟨b2_0, b2_1⟩ := b2.c2
      obtain ⟨b3_0, b3_1⟩ := b3.c2
      ((with_reducible refine (tree_codes x HSF.out).mono ?_))
      rintro e W5 ⟨V5, rfl, l, u5⟩
      replace h := h.up u5
      replace k := k.up u5
      replace x := x.up u5
      replace b1 := b1.up u5
      replace b2 := b2.up u5
      replace b3 := b3.up u5
      replace UP := UP.trans u5
      clear b1_0 b1_1 b2_0 b2_1 b3_0 b3_1
      obtain ⟨b1_0, b1_1⟩ := b1.c2
      obtain ⟨b2_0, b2_1⟩ := b2.c2
      obtain ⟨b3_0, b3_1⟩ := b3.c2
      clear u5
      obtain ⟨L, cl, rfl⟩ := l.form
      have hl1 := HSF.out.1
      have hl2 := HSF.out.2.1
      go_wp2_with fail
      ((with_reducible refine (ref_codes h (by omega) (by omega)).mono ?_))
      rintro e W6 ⟨V6, rfl, m, u6⟩
      replace h := h.up u6
      replace k := k.up u6
      replace x := x.up u6
      replace l := l.up u6
      replace b1 := b1.up u6
      replace b2 := b2.up u6
      replace b3 := b3.up u6
      replace UP := UP.trans u6
      clear b1_0 b1_1 b2_0 b2_1 b3_0 b3_1
      obtain ⟨b1_0, b1_1⟩ := b1.c2
      obtain ⟨b2_0, b2_1⟩ := b2.c2
      obtain ⟨b3_0, b3_1⟩ := b3.c2
      clear u6
      obtain ⟨M, cm, rfl⟩ := m.form
      have AP := Lib.hid l
      have BP := Lib.hid m
      have HF := Lib.hid h
      have HG := Lib.hid k
      have HX := Lib.hid x
      have B1 := Lib.hid b1
      have B2 := Lib.hid b2
      have B3 := Lib.hid b3
      have HU := Lib.hid UP
      clear l m h k x b1 b2 b3 UP b1_0 b1_1 b2_0 b2_1 b3_0 b3_1
      have hcl := HC.out.1
      go_wp2_with fail
      go_loopw [8] (fun s8 wr => ∃ j : Nat, s8 = .int .i64 j ∧ j ≤ F.codes.length ∧ Up W6 wr) (fun s8 _ => F.codes.length - (intOf s8).toNat)
      case atStart => exact ⟨0, rfl, Nat.zero_le _, Up.refl _⟩
      case round =>
        obtain ⟨j, rfl, hj, hup⟩ := hrel
        by_cases hlt : j < F.codes.length
        · obtain ⟨b, o, u, rfl, hb, c1, n1⟩ := (AP.out.up hup).at_ hlt
          obtain ⟨b', o', u', rfl, hb', c2, n2⟩ := (BP.out.up hup).at_ hlt
          have HL := Lib.hid (HC.out.2 F.codes[j] (List.getElem_mem hlt))
          generalize F.codes[j] = p at *
          have N1 := Lib.hid n1
          have N2 := Lib.hid n2
          have HOLD : Hid (∀ w', Up wr w' → w'.cell? ⟨b, o + j, none⟩ = some u ∧ w'.cell? ⟨b', o' + j, none⟩ = some u') := Lib.hid (fun w' hu => ⟨(hu.cell (p := ⟨b, o + j, none⟩) hb).trans c1, (hu.cell (p := ⟨b', o' + j, none⟩) hb').trans c2⟩)
          have k1 : (j : Int) < (F.codes.length : Int) := by omega
          have k0 : (0 : Int) ≤ (j : Int) := by omega
          have kk : ((j : Int)).toNat = j := by omega
          have HL1 := Lib.hid (Nat.le_trans HL.out.1 (show 100 ≤ 1000000 by omega))
          have HL2 : Hid (∀ x ∈ p, x.n.length ≤ 1000000) := Lib.hid (fun x hx => Nat.le_trans (HL.out.2 x hx) (by omega))
          clear n1 n2
          go_wp2_with fail
          go_region_held3 (fun w' => w'.cell? ⟨b, o + j, none⟩ = some u ∧ w'.cell? ⟨b', o' + j, none⟩ = some u')
            (first | go_keep | exact HOLD.out _ q2 | exact HOLD.out _ (q2.trans u3))
            (first
              | (go_at_call 20
                 refine (law_of (N1.out.up (by first | exact Up.refl _ | exact (Up.refl _).drew)) HL1.out).mono ?_
                 rintro e w2 ⟨v2, rfl, m2, u2⟩
                 have q2 : Up wr w2 := by first | exact u2 | exact ((Up.refl _).drew).trans u2)
              | (go_at_call 19
                 refine (nodes_same m2 (N2.out.up q2) HL1.out HL2.out).mono ?_
                 rintro e w3 ⟨rfl, u3⟩))
          all_goals
            have up3 := hup.trans (q2.trans u3)
            clear c1 c2 q2 u2 u3 m2
            go_wp2
            go_roundw
            case rel => exact ⟨j + 1, by go_num, by omega, up3⟩
            case measure => simp [intOf]; omega
        · obtain rfl : j = F.codes.length := by omega
          have h := HF.out.up hup
          have k := HG.out.up hup
          have x := HX.out.up hup
          have b1 := B1.out.up hup
          have b2 := B2.out.up hup
          have b3 := B3.out.up hup
          have UP := HU.out.trans hup
          clear hup
          go_wp2_with fail
          obtain ⟨b1_0, b1_1⟩ := b1.c2
          obtain ⟨b2_0, b2_1⟩ := b2.c2
          obtain ⟨b3_0, b3_1⟩ := b3.c2
          replace h := h.up (Up.refl wr).drew
          replace k := k.up (Up.refl wr).drew
          replace x := x.up (Up.refl wr).drew
          replace b1 := b1.up (Up.refl wr).drew
          replace b2 := b2.up (Up.refl wr).drew
          replace b3 := b3.up (Up.refl wr).drew
          replace UP := UP.trans (Up.refl wr).drew
          clear b1_0 b1_1 b2_0 b2_1 b3_0 b3_1
          obtain ⟨b1_0, b1_1⟩ := b1.c2
          obtain ⟨b2_0, b2_1⟩ := b2.c2
          obtain ⟨b3_0, b3_1⟩ := b3.c2
          go_region_held3 (fun w' => Up w w' ∧ w'.cell? ⟨w.heap.size, 0, none⟩ = some (.slice A F.lets.length c) ∧ w'.cell? ⟨w.heap.size, 1, none⟩ = some (.slice B F.outs.length d) ∧ w'.cell? ⟨w.heap.size + 1, 0, none⟩ = some (.slice A' G.lets.length c') ∧ w'.cell? ⟨w.heap.size + 1, 1, none⟩ = some (.slice B' G.outs.length d') ∧ w'.cell? ⟨W3.heap.size, 0, none⟩ = some (.slice X F.lets.length cx) ∧ w'.cell? ⟨W3.heap.size, 1, none⟩ = some (.slice Y F.outs.length cy))
              (first | with_reducible exact ⟨UP, b1_0, b1_1, b2_0, b2_1, b3_0, b3_1⟩ | with_reducible exact ⟨UP, b1_0, b1_1, b2_0, b2_1, b3_0, b3_1⟩ | with_reducible exact ⟨(UP.alloc_drew _), (cell_alloc_drew b1_0), (cell_alloc_drew b1_1), (cell_alloc_drew b2_0), (cell_alloc_drew b2_1), (cell_alloc_drew b3_0), (cell_alloc_drew b3_1)⟩ | with_reducible exact ⟨(UP.alloc2_drew _ _), (cell_alloc2_drew b1_0), (cell_alloc2_drew b1_1), (cell_alloc2_drew b2_0), (cell_alloc2_drew b2_1), (cell_alloc2_drew b3_0), (cell_alloc2_drew b3_1)⟩ | (simp only [← World.setCell_drew]; first | with_reducible exact ⟨UP, b1_0, b1_1, b2_0, b2_1, b3_0, b3_1⟩) | go_keep)
              ((first
                | (go_at_call 21
                   ((with_reducible refine (tree_size x HSF.out).mono ?_))
                   rintro e W51 ⟨rfl, u51⟩
                   replace h := h.up u51
                   replace k := k.up u51
                   replace x := x.up u51
                   try (replace y := y.up u51)
                   replace b1 := b1.up u51
                   replace b2 := b2.up u51
                   replace b3 := b3.up u51
                   replace UP := UP.trans u51
                   clear b1_0 b1_1 b2_0 b2_1 b3_0 b3_1
                   obtain ⟨b1_0, b1_1⟩ := b1.c2
                   obtain ⟨b2_0, b2_1⟩ := b2.c2
                   obtain ⟨b3_0, b3_1⟩ := b3.c2
                   clear u51)
                | (go_at_call 22
                   ((with_reducible refine (ref_size h HSF.out).mono ?_))
                   rintro e W52 ⟨rfl, u52⟩
                   replace h := h.up u52
                   replace k := k.up u52
                   replace x := x.up u52
                   try (replace y := y.up u52)
                   replace b1 := b1.up u52
                   replace b2 := b2.up u52
                   replace b3 := b3.up u52
                   replace UP := UP.trans u52
                   clear b1_0 b1_1 b2_0 b2_1 b3_0 b3_1
                   obtain ⟨b1_0, b1_1⟩ := b1.c2
                   obtain ⟨b2_0, b2_1⟩ := b2.c2
                   obtain ⟨b3_0, b3_1⟩ := b3.c2
                   clear u52)
                | (go_at_call 16
                   ((with_reducible refine (law_toField k HSG.out).mono ?_))
                   rintro e W53 ⟨V53, rfl, y, u53⟩
                   replace h := h.up u53
                   replace k := k.up u53
                   replace x := x.up u53
                   try (replace y := y.up u53)
                   replace b1 := b1.up u53
                   replace b2 := b2.up u53
                   replace b3 := b3.up u53
                   replace UP := UP.trans u53
                   clear b1_0 b1_1 b2_0 b2_1 b3_0 b3_1
                   obtain ⟨b1_0, b1_1⟩ := b1.c2
                   obtain ⟨b2_0, b2_1⟩ := b2.c2
                   obtain ⟨b3_0, b3_1⟩ := b3.c2
                   clear u53
                   obtain ⟨Xy, cxy, Yy, cyy, rfl⟩ := y.form)
                | (go_at_call 23
                   ((with_reducible refine (tree_sameField x y HSF.out HSG.out).mono ?_))
                   rintro e W54 ⟨rfl, u54⟩
                   replace h := h.up u54
                   replace k := k.up u54
                   replace x := x.up u54
                   try (replace y := y.up u54)
                   replace b1 := b1.up u54
                   replace b2 := b2.up u54
                   replace b3 := b3.up u54
                   replace UP := UP.trans u54
                   clear b1_0 b1_1 b2_0 b2_1 b3_0 b3_1
                   obtain ⟨b1_0, b1_1⟩ := b1.c2
                   obtain ⟨b2_0, b2_1⟩ := b2.c2
                   obtain ⟨b3_0, b3_1⟩ := b3.c2
                   clear u54)
                | (go_at_call 24
                   ((with_reducible refine (ref_sameField h k HSF.out HSG.out).mono ?_))
                   rintro e W55 ⟨rfl, u55⟩
                   replace h := h.up u55
                   replace k := k.up u55
                   replace x := x.up u55
                   try (replace y := y.up u55)
                   replace b1 := b1.up u55
                   replace b2 := b2.up u55
                   replace b3 := b3.up u55
                   replace UP := UP.trans u55
                   clear b1_0 b1_1 b2_0 b2_1 b3_0 b3_1
                   obtain ⟨b1_0, b1_1⟩ := b1.c2
                   obtain ⟨b2_0, b2_1⟩ := b2.c2
                   obtain ⟨b3_0, b3_1⟩ := b3.c2
                   clear u55)
                | (go_at_call 23
                   ((with_reducible refine (tree_sameSelf x HSF.out).mono ?_))
                   rintro e W56 ⟨rfl, u56⟩
                   replace h := h.up u56
                   replace k := k.up u56
                   replace x := x.up u56
                   try (replace y := y.up u56)
                   replace b1 := b1.up u56
                   replace b2 := b2.up u56
                   replace b3 := b3.up u56
                   replace UP := UP.trans u56
                   clear b1_0 b1_1 b2_0 b2_1 b3_0 b3_1
                   obtain ⟨b1_0, b1_1⟩ := b1.c2
                   obtain ⟨b2_0, b2_1⟩ := b2.c2
                   obtain ⟨b3_0, b3_1⟩ := b3.c2
                   clear u56)
                | (go_at_call 15
                   ((with_reducible refine (tree_works _).mono ?_))
                   rintro e W57 ⟨rfl, u57⟩
                   replace h := h.up u57
                   replace k := k.up u57
                   replace x := x.up u57
                   try (replace y := y.up u57)
                   replace b1 := b1.up u57
                   replace b2 := b2.up u57
                   replace b3 := b3.up u57
                   replace UP := UP.trans u57
                   clear b1_0 b1_1 b2_0 b2_1 b3_0 b3_1
                   obtain ⟨b1_0, b1_1⟩ := b1.c2
                   obtain ⟨b2_0, b2_1⟩ := b2.c2
                   obtain ⟨b3_0, b3_1⟩ := b3.c2
                   clear u57)))
          all_goals
            go_wp2
            go_ret
            exact ⟨rfl, UP⟩
end Go.Proofs.Ytmmcffceeahemaa
