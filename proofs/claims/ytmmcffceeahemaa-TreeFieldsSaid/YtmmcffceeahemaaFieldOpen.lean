/-
  What comes in, read: fields.
-/
import Derived.Test.YtmmcffceeahemaaTreeOpen
import Derived.Test.YtmmcffceeahemaaField
import Derived.Deep.Strs
import Derived.ChangeArms
set_option linter.unusedVariables false
set_option linter.unusedSimpArgs false
set_option maxRecDepth 100000
namespace Go.Proofs.Ytmmcffceeahemaa
open Go.RowKit Go.ChangeShapes Go.WideShapes Go.Deep

theorem cells_rlet : Try.prog.cellsOf 132 = 2 := by kernel_rfl
theorem cells_rnodes : Try.prog.cellsOf 36 = 1 := by kernel_rfl
theorem lts_of_trod {H : Type} {enc : TypeId × Value → H} {W : World} {fuel : Nat} {v : Value} {x : DataW H × List MemPlace} (h : DataW.trod enc Try.prog W 0 (fun _ => true) true fuel 22 [v] = some x) : ∃ l, Lts W v l := by
  rcases open_slice Try.underlying22 h with ⟨hcs, _⟩ | ⟨a, len, cap, m, n, D, Pl, hcs, _, hl, hm, hmm, _, hi⟩
  · simp at hcs
    subst hcs
    exact ⟨[], none, 0, rfl, by simp, by simp, fun h => absurd h (by simp)⟩
  · simp at hcs hmm
    subst hcs hmm
    have hex : ∀ i, i < len → ∃ y : ByteArray × List Tr.Nd, W.cell? (a.add (i * 2)) = some (.string y.1) ∧ ∃ u, W.cell? (a.add (i * 2 + 1)) = some u ∧ Nds W u y.2 := fun i him => by
      obtain ⟨cs, hc, ht⟩ := hi i (by omega)
      rw [cells_rlet] at hc
      obtain ⟨ys, n', _, _, hlen, hyl, hf⟩ := DataW.trod_struct Try.underlying132 ht
      obtain ⟨_, hcl, hat⟩ := World.cells?_some hc
      match cs, hcl with
      | [c0, c1], _ =>
        have q0 := hat 0 (by omega)
        have q1 := hat 1 (by omega)
        rw [add_add] at q0 q1
        simp only [List.getElem?_cons_zero, List.getElem?_cons_succ, Nat.add_zero] at q0 q1
        have k3 : Try.prog.cellsOf 9 = 1 := by kernel_rfl
        have f0 : DataW.trod enc Try.prog W 0 (fun _ => true) true n' 9 (([c0, c1].drop 0).take (Try.prog.cellsOf 9)) = ys[0]? := hf 0 _ rfl
        have f1 : DataW.trod enc Try.prog W 0 (fun _ => true) true n' 36 (([c0, c1].drop 1).take (Try.prog.cellsOf 36)) = ys[1]? := hf 1 _ rfl
        have hy2 : ys.length = 2 := hyl
        rw [k3] at f0
        rw [cells_rnodes] at f1
        rw [List.getElem?_eq_getElem (by omega)] at f0 f1
        obtain ⟨s0, e0, _, _⟩ := DataW.trod_string Try.underlying9 f0
        obtain ⟨l, hw⟩ := nodes_of_trod f1
        simp at e0
        subst e0
        exact ⟨(s0, l), q0, c1, q1, hw⟩
    obtain ⟨L, hL⟩ := choose_lt (α := ByteArray × List Tr.Nd) (p := fun i y => W.cell? (a.add (i * 2)) = some (.string y.1) ∧ ∃ u, W.cell? (a.add (i * 2 + 1)) = some u ∧ Nds W u y.2) hex
    have hat : ∀ (j : Nat) x, ((List.range len).map L)[j]? = some x → j < len ∧ x = L j := fun j x hj => by
      simp only [List.getElem?_map, Option.map_eq_some_iff] at hj
      obtain ⟨k, hk, rfl⟩ := hj
      obtain ⟨hk3, hk4⟩ := List.getElem?_eq_some_iff.1 hk
      simp at hk3 hk4
      exact ⟨hk3, by rw [hk4]⟩
    refine ⟨(List.range len).map L, some a, m, by simp, by simpa using hl, hm, fun hpos => ?_⟩
    have h0 := (hL 0 (by simpa using hpos)).1
    have hs := World.cell?_spot h0
    have hb := World.block_lt_of_cell? W _ h0
    obtain ⟨b, o, s⟩ := a
    simp [Addr.add] at hs hb
    subst hs
    have e : ∀ j, (⟨b, o, none⟩ : Addr).add j = ⟨b, o + j, none⟩ := fun j => by
      unfold Addr.add
      by_cases h0 : j = 0 <;> simp [h0]
    refine ⟨b, o, rfl, hb, fun j x hj => ?_⟩
    obtain ⟨hjl, rfl⟩ := hat j x hj
    obtain ⟨c1, u, c2, c3⟩ := hL j hjl
    rw [e] at c1 c2
    exact ⟨c1, u, by rw [Nat.add_assoc]; exact c2, c3⟩
theorem ndss_of_trod {H : Type} {enc : TypeId × Value → H} {W : World} {fuel : Nat} {v : Value} {x : DataW H × List MemPlace} (h : DataW.trod enc Try.prog W 0 (fun _ => true) true fuel 23 [v] = some x) : ∃ l, Ndss W v l := by
  rcases open_slice1 Try.underlying23 cells_rnodes h with ⟨hcs, _⟩ | ⟨a, len, cap, m, n, V, D, Pl, hcs, _, hl, hm, hmm, _, hx⟩
  · simp [Value.cells] at hcs
    subst hcs
    exact ⟨[], none, 0, [], rfl, by simp, by simp, rfl, RdV.nil _ _, by simp⟩
  · simp [Value.cells] at hcs hmm
    subst hcs
    subst hmm
    have hex : ∀ i, i < m → ∃ l, Nds W (V i) l := fun i hi => nodes_of_trod (hx i hi).2
    obtain ⟨L, hL⟩ := choose_lt (α := List Tr.Nd) (p := fun i l => Nds W (V i) l) hex
    refine ⟨(List.range len).map L, some a, m, (List.range len).map V, ?_, by simpa using hl, hm, by simp, ?_, ?_⟩
    · simp
    · refine rdv_of_cells (n := len) (by simp) ?_
      intro i u hu
      simp only [List.getElem?_map, Option.map_eq_some_iff] at hu
      obtain ⟨k, hk, rfl⟩ := hu
      obtain ⟨hk3, hk4⟩ := List.getElem?_eq_some_iff.1 hk
      simp at hk3 hk4
      subst hk4
      exact (hx i (by omega)).1
    · intro i u l hu hl'
      simp only [List.getElem?_map, Option.map_eq_some_iff] at hu hl'
      obtain ⟨k, hk, rfl⟩ := hu
      obtain ⟨k', hk', rfl⟩ := hl'
      rw [hk] at hk'
      cases hk'
      obtain ⟨hk3, hk4⟩ := List.getElem?_eq_some_iff.1 hk
      simp at hk3 hk4
      exact hL k (by omega)
theorem cells_rfield : Try.prog.cellsOf 25 = 2 := by kernel_rfl
theorem open_field {H : Type} {enc : TypeId × Value → H} {W : World} {base : Nat} {v : Value} {d : DataW H} {p : List MemPlace} (hv : Value.okWide Try.prog W .any base 25 v) (h : DataW.Trod enc Try.prog W 0 (fun _ => true) true 25 v d p) : ∃ F, Fld W v F := by
  obtain ⟨v0, v1, y0, y1, n, rfl, _, _, h0, h1⟩ := Joins.open_agg2 Try.underlying25 (by kernel_rfl) cells_rfield hv h
  obtain ⟨l, hl⟩ := lts_of_trod h0
  obtain ⟨m, hm⟩ := ndss_of_trod h1
  exact ⟨⟨l, m⟩, v0, v1, rfl, hl, hm⟩
end Go.Proofs.Ytmmcffceeahemaa
