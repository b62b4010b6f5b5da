/-
  What comes in, read: slices of words, slices of those.
-/
import Derived.Test.YtmmcffceeahemaaGreatZsMem
import Derived.ProofKit
import Derived.OpenShut
import Derived.ChangeOld
import Derived.Deep.Slices
import Derived.Lib.SmallJoins
set_option linter.unusedVariables false
set_option linter.unusedSimpArgs false
set_option maxRecDepth 100000
namespace Go.Proofs.YtmmcffceeahemaaGreat
open Go.RowKit Go.ChangeShapes Go.WideShapes Go.Deep
theorem cells_u32 : Tryz.prog.cellsOf 122 = 1 := by kernel_rfl
/-- Cells that are there, in the form of our own. -/
theorem rdv_of_cells {w : World} {a : Addr} {n : Nat} {vs : List Value} (hl : vs.length = n) (h : ∀ i u, vs[i]? = some u → w.cell? (a.add i) = some u) : RdV w (some a) vs := by
 intro hpos
 have h0 := h 0 vs[0] (List.getElem?_eq_getElem hpos)
 have hs := World.cell?_spot h0
 have hb := World.block_lt_of_cell? w _ h0
 obtain ⟨b, o, s⟩ := a
 simp [Addr.add] at hs hb
 subst hs
 refine ⟨b, o, rfl, hb, fun j u hj => ?_⟩
 have := h j u hj
 unfold Addr.add at this
 by_cases h0 : j = 0
 · subst h0; simpa using this
 · simpa [h0] using this
theorem words_of_trod {H : Type} {enc : TypeId × Value → H} {W : World} {fuel : Nat} {v : Value} {x : DataW H × List MemPlace} (h : DataW.trod enc Tryz.prog W 0 (fun _ => true) true fuel 22 [v] = some x) : ∃ l, Ws W v l := by
 rcases open_ints Tryz.underlying22 Tryz.underlying122 cells_u32 h with ⟨hcs, _⟩ | ⟨a, len, cap, zs, hcs, _, hl, hm, hz, _, hcell, hwz⟩
 · simp at hcs
   subst hcs
   exact ⟨[], Ws.nil W⟩
 · simp at hcs hz
   subst hcs
   have hlen : ((zs.take len).map Int.toNat).length = len := by simp [hz]; omega
   refine ⟨(zs.take len).map Int.toNat, Ws.mk hlen.symm (by rw [hlen]; exact hl) hm ?_ ?_⟩
   · intro y hy
     obtain ⟨z, hz', rfl⟩ := List.mem_map.1 hy
     have := bounds_u32 (hwz z (List.mem_of_mem_take hz'))
     rw [Wd.B_eq]; omega
   · refine rdv_of_cells (n := len) (by simp [hz]; omega) ?_
     intro i u hu
     simp only [List.getElem?_map, Option.map_eq_some_iff] at hu
     obtain ⟨n, ⟨z, hz', rfl⟩, rfl⟩ := hu
     rw [List.getElem?_take] at hz'
     split at hz'
     · have hi : i < zs.length := by omega
       have hc := hcell i hi
       rw [List.getElem?_eq_getElem hi] at hz'
       cases hz'
       have hb := bounds_u32 (hwz zs[i] (List.getElem_mem hi))
       rw [hc]
       have e : zs.getD i 0 = zs[i] := by simp [List.getD, hi]
       rw [e]
       show _ = some (Value.int .u32 ((zs[i].toNat : Nat) : Int))
       rw [Int.toNat_of_nonneg hb.1]
     · cases hz'
end Go.Proofs.YtmmcffceeahemaaGreat
