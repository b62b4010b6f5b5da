/-
  What comes in, read: slices of nodes.
-/
import Derived.Test.YtmmcffceeahemaaOpen
import Derived.Test.YtmmcffceeahemaaNodes
import Derived.Deep.Fields
set_option linter.unusedVariables false
set_option linter.unusedSimpArgs false
set_option maxRecDepth 100000
namespace Go.Proofs.Ytmmcffceeahemaa
open Go.RowKit Go.ChangeShapes Go.WideShapes Go.Deep

instance : Inhabited Tr.Nd := ⟨⟨0, 0, []⟩⟩
theorem cells_rnode : Try.prog.cellsOf 144 = 3 := by kernel_rfl
/-- A node's cells, at an address. -/
def NdIn (w : World) (a : Addr) (i : Nat) (x : Tr.Nd) : Prop :=
  I64 x.op ∧ I64 x.i ∧ w.cell? (a.add (i * 3)) = some (.int .i64 x.op) ∧ w.cell? (a.add (i * 3 + 1)) = some (.int .i64 x.i) ∧ ∃ u, w.cell? (a.add (i * 3 + 2)) = some u ∧ Ws w u x.n
theorem nds_of_in {w : World} {a : Addr} {len cap : Nat} {L : Nat → Tr.Nd} (hl : len ≤ cap) (hm : cap ≤ maxLen) (h : ∀ i, i < len → NdIn w a i (L i)) : Nds w (.slice (some a) len cap) ((List.range len).map L) := by
  have hat : ∀ (j : Nat) x, ((List.range len).map L)[j]? = some x → j < len ∧ x = L j := fun j x hj => by
    simp only [List.getElem?_map, Option.map_eq_some_iff] at hj
    obtain ⟨k, hk, rfl⟩ := hj
    obtain ⟨hk3, hk4⟩ := List.getElem?_eq_some_iff.1 hk
    simp at hk3 hk4
    exact ⟨hk3, by rw [hk4]⟩
  refine ⟨some a, cap, by simp, by simpa using hl, hm, fun x hx => ?_, fun hpos => ?_⟩
  · obtain ⟨j, hj⟩ := List.getElem?_of_mem hx
    obtain ⟨hjl, rfl⟩ := hat j x hj
    exact ⟨(h j hjl).1, (h j hjl).2.1⟩
  · have h0 := h 0 (by simpa using hpos)
    have hc := h0.2.2.1
    have hs := World.cell?_spot hc
    have hb := World.block_lt_of_cell? w _ hc
    obtain ⟨b, o, s⟩ := a
    simp [Addr.add] at hs hb
    subst hs
    have e : ∀ j, (⟨b, o, none⟩ : Addr).add j = ⟨b, o + j, none⟩ := fun j => by
      unfold Addr.add
      by_cases h0 : j = 0 <;> simp [h0]
    refine ⟨b, o, rfl, hb, fun j x hj => ?_⟩
    obtain ⟨hjl, rfl⟩ := hat j x hj
    obtain ⟨_, _, c1, c2, u, c3, c4⟩ := h j hjl
    rw [e] at c1 c2 c3
    exact ⟨c1, c2, u, c3, c4⟩
theorem nodes_of_trod {H : Type} {enc : TypeId × Value → H} {W : World} {fuel : Nat} {v : Value} {x : DataW H × List MemPlace} (h : DataW.trod enc Try.prog W 0 (fun _ => true) true fuel 36 [v] = some x) : ∃ l, Nds W v l := by
  rcases open_slice Try.underlying36 h with ⟨hcs, _⟩ | ⟨a, len, cap, m, n, D, Pl, hcs, _, hl, hm, hmm, _, hi⟩
  · simp at hcs
    subst hcs
    exact ⟨[], Nds.nil W⟩
  · simp at hcs hmm
    subst hcs hmm
    have hex : ∀ i, i < len → ∃ y, NdIn W a i y := fun i him => by
      obtain ⟨cs, hc, ht⟩ := hi i (by omega)
      rw [cells_rnode] at hc
      obtain ⟨ys, n', _, _, hlen, hyl, hf⟩ := DataW.trod_struct Try.underlying144 ht
      obtain ⟨_, hcl, hat⟩ := World.cells?_some hc
      match cs, hcl with
      | [c0, c1, c2], _ =>
        have q0 := hat 0 (by omega)
        have q1 := hat 1 (by omega)
        have q2 := hat 2 (by omega)
        rw [add_add] at q0 q1 q2
        simp only [List.getElem?_cons_zero, List.getElem?_cons_succ, Nat.add_zero] at q0 q1 q2
        have k3 : Try.prog.cellsOf 3 = 1 := by kernel_rfl
        have f0 : DataW.trod enc Try.prog W 0 (fun _ => true) true n' 3 (([c0, c1, c2].drop 0).take (Try.prog.cellsOf 3)) = ys[0]? := hf 0 _ rfl
        have f1 : DataW.trod enc Try.prog W 0 (fun _ => true) true n' 3 (([c0, c1, c2].drop 1).take (Try.prog.cellsOf 3)) = ys[1]? := hf 1 _ rfl
        have f2 : DataW.trod enc Try.prog W 0 (fun _ => true) true n' 59 (([c0, c1, c2].drop 2).take (Try.prog.cellsOf 59)) = ys[2]? := hf 2 _ rfl
        have hy3 : ys.length = 3 := hyl
        rw [k3] at f0 f1
        rw [cells_words] at f2
        rw [List.getElem?_eq_getElem (by omega)] at f0 f1 f2
        obtain ⟨a0, e0, _, w0⟩ := DataW.trod_int Try.underlying3 f0
        obtain ⟨a1, e1, _, w1⟩ := DataW.trod_int Try.underlying3 f1
        obtain ⟨l, hw⟩ := words_of_trod f2
        simp at e0 e1
        subst e0 e1
        exact ⟨⟨a0, a1, l⟩, bounds_i64 w0, bounds_i64 w1, q0, q1, c2, q2, hw⟩
    obtain ⟨L, hL⟩ := choose_lt (α := Tr.Nd) (p := fun i y => NdIn W a i y) hex
    exact ⟨_, nds_of_in hl hm hL⟩
theorem open_nodes {H : Type} {enc : TypeId × Value → H} {W : World} {base : Nat} {v : Value} {d : DataW H} {p : List MemPlace} (hv : Value.okWide Try.prog W .any base 36 v) (h : DataW.Trod enc Try.prog W 0 (fun _ => true) true 36 v d p) : ∃ l, Nds W v l := by
  obtain ⟨a, len, cap, rfl⟩ := okWide_slice Try.underlying36 hv
  obtain ⟨fuel, hf⟩ := h
  exact nodes_of_trod (fuel := fuel) (x := (d, p)) hf
end Go.Proofs.Ytmmcffceeahemaa
