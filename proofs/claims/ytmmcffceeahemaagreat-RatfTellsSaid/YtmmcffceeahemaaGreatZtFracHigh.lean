/-
  What comes in, read: slices of words, slices of those.
  Layer 9: a fraction that comes in, read.
  Layer 9: fractions: made, turned round, rounded down, told.
  Layer 9: fractions: on the other side of 0, without a sign, powers.
  Layer 9: fractions: powers.
-/
import Derived.Test.YtmmcffceeahemaaGreatZtMem
import Derived.ProofKit
import Derived.OpenShut
import Derived.ChangeOld
import Derived.Deep.Slices
import Derived.Lib.SmallJoins
import Derived.Test.YtmmcffceeahemaaGreatZtShort
import Derived.Test.YtmmcffceeahemaaGreatZtFracLow
import Derived.Test.YtmmcffceeahemaaGreatZtPlain
import Derived.Test.YtmmcffceeahemaaGreatZtLowTwos
set_option linter.unusedVariables false
set_option linter.unusedSimpArgs false
set_option maxRecDepth 100000
namespace Go.Proofs.YtmmcffceeahemaaGreat
open Go.RowKit Go.ChangeShapes Go.WideShapes Go.Deep
theorem cells_u32 : Tryz.prog.cellsOf 122 = 1 := by kernel_rfl
theorem cells_words : Tryz.prog.cellsOf 22 = 1 := by kernel_rfl
/-- Cells that are there, in the form of our own. -/
theorem rdv_of_cells {w : World} {a : Addr} {n : Nat} {vs : List Value} (hl : vs.length = n) (h : ∀ i u, vs[i]? = some u → w.cell? (a.add i) = some u) : RdV w (some a) vs := by
 intro hpos
 have h0 := h 0 vs[0] (List.getElem?_eq_getElem hpos)
 have hs := World.cell?_spot h0
 have hb := World.block_lt_of_cell? w _ h0
 obtain ⟨b, o, s⟩ := a
 simp [Addr.add] at hs hb
 subst hs
 refine ⟨b, o, rfl, hb, fun j u hj => ?_⟩
 have := h j u hj
 unfold Addr.add at this
 by_cases h0 : j = 0
 · subst h0; simpa using this
 · simpa [h0] using this
theorem words_of_trod {H : Type} {enc : TypeId × Value → H} {W : World} {fuel : Nat} {v : Value} {x : DataW H × List MemPlace} (h : DataW.trod enc Tryz.prog W 0 (fun _ => true) true fuel 22 [v] = some x) : ∃ l, Ws W v l := by
 rcases open_ints Tryz.underlying22 Tryz.underlying122 cells_u32 h with ⟨hcs, _⟩ | ⟨a, len, cap, zs, hcs, _, hl, hm, hz, _, hcell, hwz⟩
 · simp at hcs
   subst hcs
   exact ⟨[], Ws.nil W⟩
 · simp at hcs hz
   subst hcs
   have hlen : ((zs.take len).map Int.toNat).length = len := by simp [hz]; omega
   refine ⟨(zs.take len).map Int.toNat, Ws.mk hlen.symm (by rw [hlen]; exact hl) hm ?_ ?_⟩
   · intro y hy
     obtain ⟨z, hz', rfl⟩ := List.mem_map.1 hy
     have := bounds_u32 (hwz z (List.mem_of_mem_take hz'))
     rw [Wd.B_eq]; omega
   · refine rdv_of_cells (n := len) (by simp [hz]; omega) ?_
     intro i u hu
     simp only [List.getElem?_map, Option.map_eq_some_iff] at hu
     obtain ⟨n, ⟨z, hz', rfl⟩, rfl⟩ := hu
     rw [List.getElem?_take] at hz'
     split at hz'
     · have hi : i < zs.length := by omega
       have hc := hcell i hi
       rw [List.getElem?_eq_getElem hi] at hz'
       cases hz'
       have hb := bounds_u32 (hwz zs[i] (List.getElem_mem hi))
       rw [hc]
       have e : zs.getD i 0 = zs[i] := by simp [List.getD, hi]
       rw [e]
       show _ = some (Value.int .u32 ((zs[i].toNat : Nat) : Int))
       rw [Int.toNat_of_nonneg hb.1]
     · cases hz'
end Go.Proofs.YtmmcffceeahemaaGreat
set_option maxRecDepth 100000
namespace Go.Proofs.YtmmcffceeahemaaGreat
open Go.RowKit Go.ChangeShapes Go.WideShapes Go.Deep
theorem cells_rfrac : Tryz.prog.cellsOf 24 = 3 := by kernel_rfl
theorem open_frac {H : Type} {enc : TypeId × Value → H} {W : World} {base : Nat} {v : Value} {d : DataW H} {p : List MemPlace} (hv : Value.okWide Tryz.prog W .any base 24 v) (h : DataW.Trod enc Tryz.prog W 0 (fun _ => true) true 24 v d p) :
 ∃ s u d l m, v = .agg #[.bool s, u, d] ∧ Ws W u l ∧ Ws W d m := by
 obtain ⟨v0, v1, v2, y0, y1, y2, n, rfl, _, _, h0, h1, h2⟩ := Joins.open_agg3 Tryz.underlying24 (by kernel_rfl) cells_rfrac hv h
 obtain ⟨l, hl⟩ := words_of_trod h1
 obtain ⟨m, hm⟩ := words_of_trod h2
 obtain ⟨b, e0⟩ := DataW.trod_bool Tryz.underlying4 h0
 obtain ⟨e1, _⟩ := e0
 simp at e1
 subst e1
 exact ⟨b, v1, v2, l, m, rfl, hl, hm⟩
end Go.Proofs.YtmmcffceeahemaaGreat
namespace Go.Proofs.YtmmcffceeahemaaGreat
open Go.RowKit
theorem lq_int {n : Int} (hn : -9223372036854775808 ≤ n ∧ n ≤ 9223372036854775807) : Wd.Lq (n : Rat) 2 := Wd.Lq.int (Wd.words_64 (by omega)) (by omega)
set_option maxHeartbeats 1600000 in
theorem frac_ratio {n d : Int} (hn : -9223372036854775808 ≤ n ∧ n ≤ 9223372036854775807) (hd : -9223372036854775808 ≤ d ∧ d ≤ 9223372036854775807) (w : World) : Calls Tryz.prog 88 #[.int .i64 n, .int .i64 d] w (RetQB ((n : Rat) / (d : Rat)) (!decide (d = 0)) w) := by
 have UP : Up w (w.alloc (.cells #[.bool false, .slice none 0 0, .slice none 0 0] 34)) := (Up.refl w).alloc _
 have r0 := Bx.new 34 w [.bool false, .slice none 0 0, .slice none 0 0]
 go_enter Tryz.func88, Tryz.ntmps88
 go_wp2_with fail
 generalize (w.alloc (.cells #[.bool false, .slice none 0 0, .slice none 0 0] 34)) = W at *
 obtain ⟨r0_0, r0_1, r0_2⟩ := r0.c3
 have r0_f0 := r0.free
 go_wp2_with fail
 ((with_reducible refine (frac_of hn _).mono ?_))
 rintro e W1 ⟨V1, rfl, q1, u1⟩
 revert UP r0 r0_0 r0_1 r0_2
 refine lg5 u1 ?_
 intro UP r0 r0_0 r0_1 r0_2
 replace r0_f0 := r0.free
 clear u1
 go_wp2_with fail
 ((with_reducible refine (frac_of hd _).mono ?_))
 rintro e W2 ⟨V2, rfl, q2, u2⟩
 revert q1 UP r0 r0_0 r0_1 r0_2
 refine lg6 u2 ?_
 intro q1 UP r0 r0_0 r0_1 r0_2
 replace r0_f0 := r0.free
 clear u2
 go_wp2_with fail
 ((with_reducible refine (frac_quo (q1.fr (lq_int hn)) (q2.fr (lq_int hd)) (by omega) (by omega)).mono ?_))
 rintro e W3 ⟨V3, rfl, q3, u3⟩
 revert q2 q1 UP r0 r0_0 r0_1 r0_2
 refine lg7 u3 ?_
 intro q2 q1 UP r0 r0_0 r0_1 r0_2
 replace r0_f0 := r0.free
 clear u3
 obtain ⟨Xq3, Yq3, rfl, q3, q3d⟩ := q3
 obtain ⟨Aq3, nq3, cq3, rfl⟩ := q3.shape
 obtain ⟨Aq3d, nq3d, cq3d, rfl⟩ := q3d.shape
 go_wp2_with fail
 exact end_qb_as rfl rfl rfl rfl rfl rfl ⟨_, _, rfl, q3, q3d⟩ r0 trivial trivial trivial UP (by omega)
set_option maxHeartbeats 1600000 in
theorem frac_same {v u : Value} {q r : Rat} {j k : Nat} {w : World} (h : Fr w v q j) (h' : Fr w u r k) (hj : j ≤ 20000000) (hk : k ≤ 20000000) : Calls Tryz.prog 89 #[v, u] w fun e w' => e = .returned (.bool (decide (q = r))) ∧ Up w w' := by
 have HE : Hid ((Wd.cmpQ q r == 0) = decide (q = r)) := Lib.hid (by
  have := Wd.cmpQ_zero q r
  rw [Bool.eq_iff_iff]
  simpa using this)
 have H := h
 have K := h'
 obtain ⟨s, v1, v2, l, m, rfl, hl, hm, _⟩ := h
 obtain ⟨t, v3, v4, l', m', rfl, hl', hm', _⟩ := h'
 obtain ⟨A, c, rfl⟩ := hl.form
 obtain ⟨D, d, rfl⟩ := hm.form
 obtain ⟨A', c', rfl⟩ := hl'.form
 obtain ⟨D', d', rfl⟩ := hm'.form
 clear hl hm hl' hm'
 have UP : Up w ((w.alloc (.cells #[.bool s, .slice A l.length c, .slice D m.length d] 34)).alloc (.cells #[.bool t, .slice A' l'.length c', .slice D' m'.length d'] 34)) := ((Up.refl w).alloc _).alloc _
 obtain ⟨b0, b1⟩ := bx_two 34 34 w [.bool s, .slice A l.length c, .slice D m.length d] [.bool t, .slice A' l'.length c', .slice D' m'.length d']
 go_enter Tryz.func89, Tryz.ntmps89
 go_wp2_with fail
 generalize ((w.alloc (.cells #[.bool s, .slice A l.length c, .slice D m.length d] 34)).alloc (.cells #[.bool t, .slice A' l'.length c', .slice D' m'.length d'] 34)) = W at *
 revert H K
 refine lg2 UP ?_
 intro H K
 obtain ⟨b0_0, b0_1, b0_2⟩ := b0.c3
 obtain ⟨b1_0, b1_1, b1_2⟩ := b1.c3
 go_wp2_with fail
 ((with_reducible refine (frac_cmp H K (by omega) (by omega)).mono ?_))
 rintro e W1 ⟨rfl, u1⟩
 revert UP b0 b1 H K b0_0 b0_1 b0_2 b1_0 b1_1 b1_2
 revert u1
 refine lh11 ?_
 intro UP b0 b1 H K b0_0 b0_1 b0_2 b1_0 b1_1 b1_2
 go_wp2
 go_ret
 exact ⟨by rw [← HE.out]; rfl, UP⟩
end Go.Proofs.YtmmcffceeahemaaGreat
set_option linter.unusedSimpArgs false
