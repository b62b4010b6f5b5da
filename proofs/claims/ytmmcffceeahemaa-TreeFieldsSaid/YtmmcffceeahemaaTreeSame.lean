/-
  The walks of layer 17: how long nodes are, nodes compared with their like, and the one law without arguments.
-/
import Derived.Test.YtmmcffceeahemaaTreeParts
import Derived.Test.YtmmcffceeahemaaTree
set_option linter.unusedVariables false
set_option linter.unusedSimpArgs false
namespace Go.Proofs.Ytmmcffceeahemaa
open Go.RowKit

/-- What comes back: whether it is too long. -/
def RetL (l : List Tr.Nd) (p q : Nat) (w : World) (e : Ending) (w' : World) : Prop := ∃ t : Bool, e = .returned (.bool t) ∧ (t = false → l.length ≤ p ∧ ∀ x ∈ l, x.n.length ≤ q) ∧ w = w'

set_option maxRecDepth 100000 in
set_option maxHeartbeats 1600000 in
/-- Not too long: few nodes, short numbers. -/
theorem nodes_long {v : Value} {l : List Tr.Nd} {w : World} (h : Nds w v l) {p q : Nat} (hp : p ≤ 1000000) (hq : q ≤ 1000000) :
    Calls Try.prog 92 #[v, .int .i64 p, .int .i64 q] w (RetL l p q w) := by
  obtain ⟨A, c, rfl, h1, h2, h3, h4⟩ := h
  have hl := Nat.le_trans h1 h2
  unfold maxLen at hl
  clear h2 h3
  go_enter Try.func92, Try.ntmps92
  go_wp2
  go_loop [6, 7] (fun s6 s7 => ∃ (k : Nat), s6 = .bool false ∧ s7 = .int .i64 k ∧ k ≤ l.length ∧ Hid (∀ j x, j < k → l[j]? = some x → x.n.length ≤ q)) (fun _ s7 => l.length - (intOf s7).toNat)
  case atStart => exact ⟨0, rfl, rfl, Nat.zero_le _, Lib.hid (fun j x hj => by omega)⟩
  case round =>
    obtain ⟨k, rfl, rfl, hk, HG⟩ := hrel
    by_cases hlt : k < l.length
    · by_cases hkp : k < p
      · obtain ⟨b, o, rfl, hb, g1, g2, u, g3, g4⟩ := h4.at_ hlt
        have HX : Hid (l[k]? = some l[k]) := Lib.hid (List.getElem?_eq_getElem hlt)
        obtain ⟨B, d, rfl⟩ := g4.form
        generalize l[k] = x at *
        by_cases hbig : q < x.n.length
        · go_wp2
          go_ret
          exact ⟨_, rfl, (by simp), rfl⟩
        · go_wp2
          go_round
          case rel =>
            refine ⟨k + 1, rfl, by go_num, by omega, Lib.hid (fun j y hj hy => ?_)⟩
            by_cases hjk : j = k
            · subst hjk
              rw [HX.out] at hy
              cases hy
              omega
            · exact HG.out j y (by omega) hy
          case measure => simp [intOf]; omega
      · have hpl : p < l.length := by omega
        go_wp2
        go_ret
        exact ⟨_, rfl, (fun h => by simp at h; try omega), rfl⟩
    · obtain rfl : k = l.length := by omega
      have HH := Lib.hid (fun (x : Tr.Nd) (hx : x ∈ l) => by
        obtain ⟨j, hj⟩ := List.getElem?_of_mem hx
        have hjl : j < l.length := (List.getElem?_eq_some_iff.1 hj).1
        exact HG.out j x hjl hj : ∀ x ∈ l, x.n.length ≤ q)
      go_wp2
      go_ret
      exact ⟨_, rfl, fun h => ⟨by simp at h; omega, HH.out⟩, rfl⟩

set_option maxRecDepth 100000 in
set_option maxHeartbeats 3200000 in
/-- Nodes and their like are alike. -/
theorem nodes_same {v u : Value} {l : List Tr.Nd} {w : World} (h : Nds w v l) (k : Nds w u l) (hl : l.length ≤ 1000000) (hnl : ∀ x ∈ l, x.n.length ≤ 1000000) :
    Calls Try.prog 19 #[v, u] w fun e w' => e = .returned (.bool true) ∧ Up w w' := by
  obtain ⟨A, c, rfl, h1, h2, h3, h4⟩ := h
  obtain ⟨A2, c2, rfl, h12, h22, h32, h42⟩ := k
  have HNL := Lib.hid hnl
  clear h2 h3 h22 h32 hnl
  go_enter Try.func19, Try.ntmps19
  go_wp2
  go_loopw [5] (fun s5 wr => ∃ (k : Nat), s5 = .int .i64 k ∧ k ≤ l.length ∧ Up w wr) (fun s5 _ => l.length - (intOf s5).toNat)
  case atStart => exact ⟨0, rfl, Nat.zero_le _, Up.refl w⟩
  case round =>
    obtain ⟨k, rfl, hk, hup⟩ := hrel
    by_cases hlt : k < l.length
    · obtain ⟨b, o, rfl, hb, g1, g2, u, g3, g4⟩ := (h4.up hup).at_ hlt
      obtain ⟨b', o', rfl, hb', g1', g2', u', g3', g4'⟩ := (h42.up hup).at_ hlt
      have hn := HNL.out l[k] (List.getElem_mem hlt)
      generalize l[k] = x at *
      obtain ⟨B, d, rfl⟩ := g4.form
      obtain ⟨B', d', rfl⟩ := g4'.form
      have HC : ∀ n, Calls Try.prog 99 #[.slice B x.n.length d, .slice B' x.n.length d'] (wr.drewN n) fun e w' => e = .returned (.int .i64 0) ∧ w' = wr.drewN n := fun n => by
        have := ref_cmp (w := wr.drewN n) (g4.up ((Up.refl wr).drewN n)) (g4'.up ((Up.refl wr).drewN n)) (by omega) (by omega)
        rw [Wd.cmpI_eq rfl] at this
        exact this.mono fun _ _ h => ⟨h.1, h.2.symm⟩
      have k1 : (k : Int) < (l.length : Int) := by omega
      have k0 : (0 : Int) ≤ (k : Int) := by omega
      have kk : ((k : Int)).toNat = k := by omega
      go_wp2
      go_quiet ((go_at_call 99; exact Calls.quiet_of_same (HC _)))
      go_wp2
      go_roundw
      case rel => exact ⟨k + 1, by go_num, by omega, hup.drewN _⟩
      case measure => simp [intOf]; omega
    · obtain rfl : k = l.length := by omega
      go_wp2
      go_ret
      exact ⟨rfl, hup⟩
set_option maxRecDepth 100000 in
set_option maxHeartbeats 1600000 in
theorem nodes_same_t {v u : Value} {l : List Tr.Nd} {w : World} (h : Nds w v l) (k : Nds w u l) (hl : l.length ≤ 1000000) (hnl : ∀ x ∈ l, x.n.length ≤ 1000000) :
    Calls Try.prog 100 #[v, u] w fun e w' => e = .returned (.bool true) ∧ Up w w' := by
  obtain ⟨A, c, rfl, h1, h2, h3, h4⟩ := h
  obtain ⟨A2, c2, rfl, h12, h22, h32, h42⟩ := k
  have HNL := Lib.hid hnl
  clear h2 h3 h22 h32 hnl
  go_enter Try.func100, Try.ntmps100
  go_wp2
  go_loopw [5, 6, 7, 15] (fun _ _ _ s15 wr => ∃ (k : Nat), s15 = .int .i64 k ∧ k ≤ l.length ∧ Up w wr) (fun _ _ _ s15 _ => l.length - (intOf s15).toNat)
  case atStart => exact ⟨0, rfl, Nat.zero_le _, Up.refl w⟩
  case round =>
    obtain ⟨k, rfl, hk, hup⟩ := hrel
    by_cases hlt : k < l.length
    · obtain ⟨b, o, rfl, hb, g1, g2, u, g3, g4⟩ := (h4.up hup).at_ hlt
      obtain ⟨b', o', rfl, hb', g1', g2', u', g3', g4'⟩ := (h42.up hup).at_ hlt
      have hn := HNL.out l[k] (List.getElem_mem hlt)
      generalize l[k] = x at *
      obtain ⟨B, d, rfl⟩ := g4.form
      obtain ⟨B', d', rfl⟩ := g4'.form
      go_wp2_with fail
      have uu : Up wr ((wr.alloc (.cells #[.int .i64 x.op, .int .i64 x.i, .slice B x.n.length d] 135)).alloc (.cells #[.int .i64 x.op, .int .i64 x.i, .slice B' x.n.length d'] 135)) := ((Up.refl _).alloc _).alloc _
      have hup2 := hup.trans uu
      refine (nat_cmp (g4.up uu) (g4'.up uu) (by omega) (by omega)).mono ?_
      rintro e w2 ⟨n, rfl, rfl⟩
      rw [Wd.cmpI_eq rfl]
      go_wp2
      go_roundw
      case rel => exact ⟨k + 1, by go_num, by omega, hup2.drewN n⟩
      case measure => simp [intOf]; omega
    · obtain rfl : k = l.length := by omega
      go_wp2
      go_ret
      exact ⟨rfl, hup⟩

/-- A block of nodes that was just laid. -/
theorem nds_block {w : World} {g n : Nat} {l : List Tr.Nd} {us : List Value} {T : TypeId} (h : w.heap[g]? = some (.cells (flat l us).toArray T (0, 0))) (hn : Nums w l us) (hl : n = l.length) (hm : l.length ≤ maxLen) (hk : ∀ x ∈ l, I64 x.op ∧ I64 x.i) : Nds w (.slice (some ⟨g, 0, none⟩) n n) l := by
  subst hl
  refine ⟨_, _, rfl, Nat.le_refl _, hm, hk, rdn_of_cells hn (Array.getElem?_eq_some_iff.1 h).1 (fun j u hj => ?_)⟩
  rw [Nat.zero_add, cell_of_row w g j _ _ (0, 0) h]
  simpa using hj
theorem two_new (w : World) (A B : Obj) : ((w.alloc A).alloc B).heap[w.heap.size]? = some A ∧ ((w.alloc A).alloc B).heap[w.heap.size + 1]? = some B := by
  have e : (w.alloc A).heap.size = w.heap.size + 1 := by simp
  exact ⟨(((Up.refl (w.alloc A)).alloc B).heap (by rw [e]; omega)).trans (heap_alloc_new w A), by rw [← e]; exact heap_alloc_new _ _⟩
/-- A node of a leaf. -/
def leaf (k : Int) : Tr.Nd := ⟨k, 0, []⟩
theorem nums_leaves (w : World) : ∀ (ks : List Int), Nums w (ks.map leaf) (ks.map fun _ => .slice none 0 0)
  | [] => Nums.nil w
  | k :: ks => by
    have h1 : Nums w [leaf k] [.slice none 0 0] := Nums.snoc (Nums.nil w) (Ws.nil w)
    exact h1.append (nums_leaves w ks)

set_option maxRecDepth 100000 in
set_option maxHeartbeats 1600000 in
theorem tree_works (w : World) : Calls Try.prog 15 #[] w fun e w' => e = .returned (.bool true) ∧ Up w w' := by
  go_enter Try.func15, Try.ntmps15
  go_wp2_with fail
  have q := two_new w (.cells #[.int .i64 1, .int .i64 0, .slice none 0 0] 135) (.cells #[.int .i64 1, .int .i64 0, .slice none 0 0, .int .i64 2, .int .i64 0, .slice none 0 0, .int .i64 7, .int .i64 0, .slice none 0 0] 135)
  have uu : Up w ((w.alloc (.cells #[.int .i64 1, .int .i64 0, .slice none 0 0] 135)).alloc (.cells #[.int .i64 1, .int .i64 0, .slice none 0 0, .int .i64 2, .int .i64 0, .slice none 0 0, .int .i64 7, .int .i64 0, .slice none 0 0] 135)) := ((Up.refl _).alloc _).alloc _
  generalize (w.alloc (.cells #[.int .i64 1, .int .i64 0, .slice none 0 0] 135)).alloc (.cells #[.int .i64 1, .int .i64 0, .slice none 0 0, .int .i64 2, .int .i64 0, .slice none 0 0, .int .i64 7, .int .i64 0, .slice none 0 0] 135) = W at *
  obtain ⟨q1, q2⟩ := q
  have hz : w.heap.size < W.heap.size := (Array.getElem?_eq_some_iff.1 q1).1
  generalize w.heap.size = g at *
  have hN : Nds W (.slice (some ⟨g + 1, 0, none⟩) 3 3) [leaf 1, leaf 2, leaf 7] :=
    nds_block (us := [.slice none 0 0, .slice none 0 0, .slice none 0 0]) q2 (nums_leaves W [1, 2, 7]) rfl (by simp [maxLen]) (by simp [leaf, I64])
  have hNs : Nds W (.slice (some ⟨g + 1, 6, none⟩) 1 1) [leaf 7] := by
    have := Nds.sub (p := [leaf 1, leaf 2]) (e := [leaf 7]) (r := []) (k := 6) (n := 1) (c' := 1) hN rfl rfl rfl (Nat.le_refl _) (by simp [maxLen])
    simpa using this
  have c0 : ∀ W', Up W W' → W'.cell? ⟨g, 0, none⟩ = some (.int .i64 1) ∧ W'.cell? ⟨g, 1, none⟩ = some (.int .i64 0) ∧ W'.cell? ⟨g, 2, none⟩ = some (.slice none 0 0) := fun W' hu => by
    refine ⟨(hu.cell (p := ⟨g, 0, none⟩) hz).trans ?_, (hu.cell (p := ⟨g, 1, none⟩) hz).trans ?_, (hu.cell (p := ⟨g, 2, none⟩) hz).trans ?_⟩
    all_goals (rw [cell_of_row _ _ _ _ _ (0, 0) q1]; rfl)
  have HC := Lib.hid c0
  have EX : Hid (Tr.Ex [leaf 1, leaf 2, leaf 7] 2) := Lib.hid (Tr.Ex.two (leaf 7) [leaf 1] [leaf 2] 1 1 (by decide) (Tr.Ex.leaf _ (by decide)) (Tr.Ex.leaf _ (by decide)))
  have PT : Hid (Tr.Pt [leaf 1, leaf 2, leaf 7] [[leaf 1], [leaf 2]] [1, 1]) := Lib.hid (Tr.Pt.two (leaf 7) [leaf 1] [leaf 2] 1 1 (by decide) (Tr.Ex.leaf _ (by decide)) (Tr.Ex.leaf _ (by decide)))
  clear c0 q1 q2
  have hl3 : [leaf 1, leaf 2, leaf 7].length ≤ 1000000 := by simp
  have hnl : ∀ x ∈ [leaf 1, leaf 2, leaf 7], x.n.length ≤ 1000000 := by simp [leaf]
  refine (tree_parts hN hl3 hnl EX.out.right PT.out).mono ?_
  rintro e w1 ⟨v, rfl, hv, u1⟩
  obtain ⟨A, c, rfl⟩ := hv.form
  clear hv
  go_wp2_with fail
  refine (tree_right (hN.up u1) hl3).mono ?_
  rintro e w2 ⟨rfl, u2⟩
  have hd : decide (Tr.wrongN [leaf 1, leaf 2, leaf 7] < 0) = true := by rw [EX.out.right]; rfl
  rw [hd]
  clear hd
  have u12 := u1.trans u2
  go_wp2_with fail
  have hw7 : Tr.wrongN [leaf 7] = 0 := by decide
  refine (tree_wrong (hNs.up u12) (by simp)).mono ?_
  rintro e w3 ⟨rfl, u3⟩
  rw [hw7]
  clear hw7
  have u13 := u12.trans u3
  obtain ⟨k1, k2, k3⟩ := HC.out w3 u13
  go_wp2_with fail
  have hb2 : Nds (w3.alloc (.cells #[.int .i64 1, .int .i64 0, .slice none 0 0, .int .i64 1, .int .i64 0, .slice none 0 0] 135)) (.slice (some ⟨w3.heap.size, 0, none⟩) 2 2) [leaf 1, leaf 1] :=
    nds_block (us := [.slice none 0 0, .slice none 0 0]) (heap_alloc_new _ _) (nums_leaves _ [1, 1]) rfl (by simp [maxLen]) (by simp [leaf, I64])
  have hw2 : Tr.wrongN [leaf 1, leaf 1] = 2 := by decide
  refine (tree_wrong hb2 (by simp)).mono ?_
  rintro e w4 ⟨rfl, u4⟩
  rw [hw2]
  clear hw2 hb2
  have u14 := u13.trans (Up.trans ((Up.refl w3).alloc _) u4)
  clear u4 k1 k2 k3
  go_wp2_with fail
  refine (tree_depth (hN.up u14) hl3 EX.out).mono ?_
  rintro e w5 ⟨rfl, u5⟩
  go_wp2_with fail
  go_ret
  exact ⟨rfl, (uu.trans u14).trans u5⟩
end Go.Proofs.Ytmmcffceeahemaa
