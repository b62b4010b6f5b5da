/-
  What comes in, read: slices of words, slices of those.
-/
import Derived.Test.YtmmcffceeahemaaGreatMem
import Derived.ProofKit
import Derived.OpenShut
import Derived.ChangeOld
import Derived.Deep.Slices
import Derived.Lib.SmallJoins
set_option linter.unusedVariables false
set_option linter.unusedSimpArgs false
set_option maxRecDepth 100000
namespace Go.Proofs.YtmmcffceeahemaaGreat
open Go.RowKit Go.ChangeShapes Go.WideShapes Go.Deep

theorem word_of {a : Int} (h : (Lit.int .u32 a).wf = true) : ∃ x : Nat, a = x ∧ x < Wd.B := by
 have := bounds_u32 h
 exact ⟨a.toNat, by omega, by rw [Wd.B_eq]; omega⟩

theorem cells_u32 : Tryz.prog.cellsOf 122 = 1 := by kernel_rfl
theorem cells_words : Tryz.prog.cellsOf 22 = 1 := by kernel_rfl

/-- Cells that are there, in the form of our own. -/
theorem rdv_of_cells {w : World} {a : Addr} {n : Nat} {vs : List Value} (hl : vs.length = n) (h : ∀ i u, vs[i]? = some u → w.cell? (a.add i) = some u) : RdV w (some a) vs := by
 intro hpos
 have h0 := h 0 vs[0] (List.getElem?_eq_getElem hpos)
 have hs := World.cell?_spot h0
 have hb := World.block_lt_of_cell? w _ h0
 obtain ⟨b, o, s⟩ := a
 simp [Addr.add] at hs hb
 subst hs
 refine ⟨b, o, rfl, hb, fun j u hj => ?_⟩
 have := h j u hj
 unfold Addr.add at this
 by_cases h0 : j = 0
 · subst h0; simpa using this
 · simpa [h0] using this

theorem words_of_trod {H : Type} {enc : TypeId × Value → H} {W : World} {fuel : Nat} {v : Value} {x : DataW H × List MemPlace} (h : DataW.trod enc Tryz.prog W 0 (fun _ => true) true fuel 22 [v] = some x) : ∃ l, Ws W v l := by
 rcases open_ints Tryz.underlying22 Tryz.underlying122 cells_u32 h with ⟨hcs, _⟩ | ⟨a, len, cap, zs, hcs, _, hl, hm, hz, _, hcell, hwz⟩
 · simp at hcs
   subst hcs
   exact ⟨[], Ws.nil W⟩
 · simp at hcs hz
   subst hcs
   have hlen : ((zs.take len).map Int.toNat).length = len := by simp [hz]; omega
   refine ⟨(zs.take len).map Int.toNat, Ws.mk hlen.symm (by rw [hlen]; exact hl) hm ?_ ?_⟩
   · intro y hy
     obtain ⟨z, hz', rfl⟩ := List.mem_map.1 hy
     have := bounds_u32 (hwz z (List.mem_of_mem_take hz'))
     rw [Wd.B_eq]; omega
   · refine rdv_of_cells (n := len) (by simp [hz]; omega) ?_
     intro i u hu
     simp only [List.getElem?_map, Option.map_eq_some_iff] at hu
     obtain ⟨n, ⟨z, hz', rfl⟩, rfl⟩ := hu
     rw [List.getElem?_take] at hz'
     split at hz'
     · have hi : i < zs.length := by omega
       have hc := hcell i hi
       rw [List.getElem?_eq_getElem hi] at hz'
       cases hz'
       have hb := bounds_u32 (hwz zs[i] (List.getElem_mem hi))
       rw [hc]
       have e : zs.getD i 0 = zs[i] := by simp [List.getD, hi]
       rw [e]
       show _ = some (Value.int .u32 ((zs[i].toNat : Nat) : Int))
       rw [Int.toNat_of_nonneg hb.1]
     · cases hz'

theorem open_words {H : Type} {enc : TypeId × Value → H} {W : World} {base : Nat} {v : Value} {d : DataW H} {p : List MemPlace} (hv : Value.okWide Tryz.prog W .any base 22 v) (h : DataW.Trod enc Tryz.prog W 0 (fun _ => true) true 22 v d p) : ∃ l, Ws W v l := by
 obtain ⟨a, len, cap, rfl⟩ := okWide_slice Tryz.underlying22 hv
 obtain ⟨fuel, hf⟩ := h
 exact words_of_trod (fuel := fuel) (x := (d, p)) hf

theorem open_lists {H : Type} {enc : TypeId × Value → H} {W : World} {base : Nat} {v : Value} {d : DataW H} {p : List MemPlace} (hv : Value.okWide Tryz.prog W .any base 184 v) (h : DataW.Trod enc Tryz.prog W 0 (fun _ => true) true 184 v d p) : ∃ ls, Wss W v ls := by
 obtain ⟨a, len, cap, rfl⟩ := okWide_slice Tryz.underlying184 hv
 obtain ⟨fuel, hf⟩ := h
 rcases open_slice1 Tryz.underlying184 cells_words hf with ⟨hcs, _⟩ | ⟨a, len, cap, m, n, V, D, Pl, hcs, _, hl, hm, hmm, _, hx⟩
 · simp [Value.cells] at hcs
   obtain ⟨rfl, rfl, rfl⟩ := hcs
   exact ⟨[], none, 0, [], rfl, by simp, by simp, rfl, RdV.nil _ _, by simp⟩
 · simp [Value.cells] at hcs hmm
   obtain ⟨rfl, rfl, rfl⟩ := hcs
   subst hmm
   have hex : ∀ i, i < m → ∃ l, Ws W (V i) l := fun i hi => words_of_trod (hx i hi).2
   obtain ⟨L, hL⟩ := choose_lt (α := List Nat) (p := fun i l => Ws W (V i) l) hex
   refine ⟨(List.range len).map L, some a, m, (List.range len).map V, ?_, by simpa using hl, hm, by simp, ?_, ?_⟩
   · simp
   · refine rdv_of_cells (n := len) (by simp) ?_
     intro i u hu
     simp only [List.getElem?_map, Option.map_eq_some_iff] at hu
     obtain ⟨k, hk, rfl⟩ := hu
     have hk2 := List.getElem?_eq_some_iff.1 hk
     obtain ⟨hk3, hk4⟩ := hk2
     simp at hk3 hk4
     subst hk4
     exact (hx i (by omega)).1
   · intro i u l hu hl'
     simp only [List.getElem?_map, Option.map_eq_some_iff] at hu hl'
     obtain ⟨k, hk, rfl⟩ := hu
     obtain ⟨k', hk', rfl⟩ := hl'
     rw [hk] at hk'
     cases hk'
     obtain ⟨hk3, hk4⟩ := List.getElem?_eq_some_iff.1 hk
     simp at hk3 hk4
     exact hL k (by omega)


end Go.Proofs.YtmmcffceeahemaaGreat
